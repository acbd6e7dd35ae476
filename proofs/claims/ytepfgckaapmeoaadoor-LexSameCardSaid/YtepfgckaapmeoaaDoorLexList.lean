/-
  The tokens of a text as a relation on lists of bytes; it is the plain function of the implementation's tokens.
-/
import Derived.Test.YtepfgckaapmeoaaDoorLexRefE
namespace Go.Proofs.YtepfgckaapmeoaaDoor
open Go.RowKit Go.Proofs.YtepfgckaapmeoaaDoorW.PrintWords Go.Proofs.YtepfgckaapmeoaaDoorW.PrintLast Go.Proofs.YtepfgckaapmeoaaDoorW.PrintMore Go.Proofs.YtepfgckaapmeoaaDoor.PRef
set_option linter.unusedVariables false

def okW (w : List UInt8) : Bool := isB w || resB w
/-- What stands at the beginning of a list that is not empty. -/
def stepL (l : List UInt8) : Step :=
  if isSp (l.headD 0) = true then .skip 1
  else if Lib.hasPrefix l [47, 47] = true then .skip (l.takeWhile notNL).length
  else if wordB (l.headD 0) = true then wordStep (okW (l.takeWhile wordB)) ⟨(l.takeWhile wordB).toArray⟩
  else if Lib.hasPrefix l [45, 62] = true then .tok 2 arrow
  else if isSg (l.headD 0) = true then .tok 2 ⟨#[l.headD 0]⟩
  else .bad 6
theorem take_tw (p : UInt8 → Bool) (l : List UInt8) : l.take (l.takeWhile p).length = l.takeWhile p :=
  (List.prefix_iff_eq_take.1 (List.takeWhile_prefix p)).symm
theorem wordAt_list (s : ByteArray) (i : Nat) : wordAt s i = ⟨((s.data.toList.drop i).takeWhile wordB).toArray⟩ := by
  refine WideShapes.bytes_inj ?_
  rw [wordAt_def, ext_list, ext_drop, List.drop_zero]
  unfold runN
  rw [ext_drop, Nat.sub_zero, take_tw]
theorem oneAt_list (s : ByteArray) (i : Nat) (h : i < s.size) : oneAt s i = ⟨#[atB s i]⟩ := by
  refine WideShapes.bytes_inj ?_
  rw [oneAt_def, ext_list, ext_drop, List.drop_zero, drop_cons s i h]
  rfl
theorem tokStep_list (s : ByteArray) (i : Nat) (h : i < s.size) : tokStep s i = stepL (s.data.toList.drop i) := by
  have e1 : (s.data.toList.drop i).headD 0 = atB s i := by rw [drop_cons s i h]; rfl
  have e2 : pre1 s i = Lib.hasPrefix (s.data.toList.drop i) [47, 47] := by rw [pre1_def, ext_drop]
  have e3 : pre2 s i = Lib.hasPrefix (s.data.toList.drop i) [45, 62] := by rw [pre2_def, ext_drop]
  have e4 : (commAt s i).size = ((s.data.toList.drop i).takeWhile notNL).length := by rw [(commAt_size s i).1]; unfold runN; rw [ext_drop]
  have e5 : okWord s i = okW ((s.data.toList.drop i).takeWhile wordB) := by unfold okWord okW; rw [wordAt_list]
  unfold tokStep stepL
  rw [e1, e2, e3, e4, e5, wordAt_list, oneAt_list s i h]
/-- The tokens, from an offset on, behind those found. -/
inductive Lx : List UInt8 → Nat → List S36 → List S36 × Er → Prop where
  | done {i : Nat} {acc : List S36} : Lx [] i acc (acc ++ [⟨3, ⟨#[]⟩, (i : Int)⟩], .nil)
  | skip {l : List UInt8} {i n : Nat} {acc : List S36} {r : List S36 × Er} (h : l ≠ []) (hs : stepL l = .skip n) (ht : Lx (l.drop n) (i + n) acc r) : Lx l i acc r
  | tok {l : List UInt8} {i : Nat} {kd : Int} {t : ByteArray} {acc : List S36} {r : List S36 × Er} (h : l ≠ []) (hs : stepL l = .tok kd t) (ht : Lx (l.drop t.size) (i + t.size) (acc ++ [⟨kd, t, (i : Int)⟩]) r) : Lx l i acc r
  | bad {l : List UInt8} {i : Nat} {c : Int} {acc : List S36} (h : l ≠ []) (hs : stepL l = .bad c) : Lx l i acc ([], .fault c i)
theorem lx_of_go (s : ByteArray) : ∀ (k i : Nat) (acc : List S36) (r : List S36 × Er), tokGo s k i acc = some r → i ≤ s.size → Lx (s.data.toList.drop i) i acc r
  | 0, i, acc, r, h, _ => by simp [tokGo] at h
  | k + 1, i, acc, r, h, hi => by
    by_cases hlt : i < s.size
    · have ok := tokStep_ok s i hlt
      have hne : s.data.toList.drop i ≠ [] := by rw [drop_cons s i hlt]; simp
      have e2 := tokStep_list s i hlt
      cases e : tokStep s i with
      | skip n =>
        rw [tokGo_skip hlt e] at h
        rw [e] at ok e2
        cases ok with
        | skip ok => exact .skip hne e2.symm (by rw [List.drop_drop]; exact lx_of_go s k _ _ _ h ok.2)
      | tok kd t =>
        rw [tokGo_tok hlt e] at h
        rw [e] at ok e2
        cases ok with
        | tok ok => exact .tok hne e2.symm (by rw [List.drop_drop]; exact lx_of_go s k _ _ _ h ok.2)
      | bad c =>
        rw [tokGo_bad hlt e] at h
        rw [e] at e2
        cases h
        exact .bad hne e2.symm
    · rw [tokGo_end hlt] at h
      cases h
      rw [List.drop_of_length_le (by rw [data_len]; omega)]
      exact .done
theorem go_of_lx (s : ByteArray) {l : List UInt8} {i : Nat} {acc : List S36} {r : List S36 × Er} (h : Lx l i acc r) : i ≤ s.size → l = s.data.toList.drop i → ∃ k, tokGo s k i acc = some r := by
  induction h with
  | @done i acc =>
    intro hi hl
    have hn : ¬ i < s.size := fun h => by rw [drop_cons s i h] at hl; cases hl
    exact ⟨1, tokGo_end hn⟩
  | @skip l i n acc r hne hs ht ih =>
    intro hi hl
    have hlt : i < s.size := by
      rcases Nat.lt_or_ge i s.size with h | h
      · exact h
      · exact absurd (hl.trans (List.drop_of_length_le (by rw [data_len]; omega))) hne
    have e2 := tokStep_list s i hlt
    rw [← hl, hs] at e2
    have ok := tokStep_ok s i hlt
    rw [e2] at ok
    cases ok with
    | skip ok =>
      obtain ⟨k, hk⟩ := ih ok.2 (by rw [hl, List.drop_drop])
      exact ⟨k + 1, by rw [tokGo_skip hlt e2]; exact hk⟩
  | @tok l i kd t acc r hne hs ht ih =>
    intro hi hl
    have hlt : i < s.size := by
      rcases Nat.lt_or_ge i s.size with h | h
      · exact h
      · exact absurd (hl.trans (List.drop_of_length_le (by rw [data_len]; omega))) hne
    have e2 := tokStep_list s i hlt
    rw [← hl, hs] at e2
    have ok := tokStep_ok s i hlt
    rw [e2] at ok
    cases ok with
    | tok ok =>
      obtain ⟨k, hk⟩ := ih ok.2 (by rw [hl, List.drop_drop])
      exact ⟨k + 1, by rw [tokGo_tok hlt e2]; exact hk⟩
  | @bad l i c acc hne hs =>
    intro hi hl
    have hlt : i < s.size := by
      rcases Nat.lt_or_ge i s.size with h | h
      · exact h
      · exact absurd (hl.trans (List.drop_of_length_le (by rw [data_len]; omega))) hne
    have e2 := tokStep_list s i hlt
    rw [← hl, hs] at e2
    exact ⟨1, tokGo_bad hlt e2⟩
/-! ### The joined tokens of a text -/
inductive Good : S36 → Prop where
  | word {w : List UInt8} {i : Int} (h0 : w ≠ []) (h : ∀ c ∈ w, wordB c = true) (ho : okW w = true) : Good ⟨1, ⟨w.toArray⟩, i⟩
  | arrow {i : Int} : Good ⟨2, arrow, i⟩
  | sign {c : UInt8} {i : Int} (h : isSg c = true) : Good ⟨2, ⟨#[c]⟩, i⟩
theorem tw_all (p : UInt8 → Bool) : ∀ (l : List UInt8), ∀ c ∈ l.takeWhile p, p c = true
  | [], c, h => by cases h
  | b :: l, c, h => by
    cases hb : p b with
    | true =>
      rw [List.takeWhile_cons, if_pos hb] at h
      rcases List.mem_cons.1 h with h | h
      · rw [h]; exact hb
      · exact tw_all p l c h
    | false => rw [List.takeWhile_cons, if_neg (by rw [hb]; simp)] at h; cases h
theorem step_good {l : List UInt8} {kd : Int} {t : ByteArray} (i : Int) (hl : l ≠ []) (h : stepL l = .tok kd t) : Good ⟨kd, t, i⟩ := by
  unfold stepL at h
  split at h; · cases h
  split at h; · cases h
  split at h
  · rename_i hw
    unfold wordStep at h
    split at h
    · rename_i ho
      cases h
      refine .word ?_ (tw_all wordB l) ho
      cases l with
      | nil => exact absurd rfl hl
      | cons b l =>
        have hb : wordB b = true := hw
        rw [List.takeWhile_cons, if_pos hb]
        simp
    · cases h
  split at h; · cases h; exact .arrow
  split at h
  · rename_i hg
    cases h
    exact .sign hg
  · cases h
theorem lx_good {l : List UInt8} {i : Nat} {acc : List S36} {r : List S36 × Er} (h : Lx l i acc r) : (∀ t ∈ acc, Good t) → r.2 = .nil → ∃ g n, r.1 = g ++ [⟨3, ⟨#[]⟩, n⟩] ∧ ∀ t ∈ g, Good t := by
  induction h with
  | @done i acc => exact fun ha _ => ⟨acc, _, rfl, ha⟩
  | skip _ _ _ ih => exact ih
  | @tok l i kd t acc r hne hs ht ih =>
    intro ha hr
    refine ih (fun t h => ?_) hr
    rcases List.mem_append.1 h with h | h
    · exact ha t h
    · rw [List.mem_singleton.1 h]; exact step_good _ hne hs
  | bad _ _ => exact fun _ h => by cases h
theorem tw_stop (p : UInt8 → Bool) (w q : List UInt8) (h : ∀ c ∈ w, p c = true) (hq : q = [] ∨ p (q.headD 0) = false) : (w ++ q).takeWhile p = w := by
  rw [List.takeWhile_append_of_pos h]
  rcases hq with rfl | hq
  · simp
  · cases q with
    | nil => simp
    | cons b q =>
      have hb : p b = false := hq
      rw [List.takeWhile_cons, if_neg (by rw [hb]; simp), List.append_nil]
theorem sg_apart (c : UInt8) (h : isSg c = true) : isSp c = false ∧ wordB c = false ∧ c ≠ 47 := by
  have h1 := every_byte (P := fun c => !isSg c || (!isSp c && (!wordB c && decide (c ≠ 47)))) (by decide +kernel) c
  rw [h] at h1
  simpa using h1
/-- A good token, alone or ahead of a space, is found again. -/
theorem good_step {t : S36} (h : Good t) (q : List UInt8) (hq : q = [] ∨ q.headD 0 = 32) : stepL (t.f1.data.toList ++ q) = .tok t.f0 t.f1 ∧ t.f1.data.toList ≠ [] := by
  cases h with
  | @word w i h0 h ho =>
    refine ⟨?_, by simpa using h0⟩
    show stepL (w ++ q) = .tok 1 ⟨w.toArray⟩
    cases w with
    | nil => exact absurd rfl h0
    | cons b w =>
      have hb := h b (List.mem_cons_self ..)
      have hap := word_apart _ hb
      have h47 : b ≠ 47 := fun h => by
        have := hap.2
        rw [h] at this
        exact this rfl
      have e : (b :: w ++ q).takeWhile wordB = b :: w := tw_stop wordB (b :: w) q h (by
        rcases hq with hq | hq
        · exact .inl hq
        · exact .inr (by rw [hq]; rfl))
      have hd : (b :: w ++ q).headD 0 = b := rfl
      unfold stepL
      rw [hd, if_neg (by rw [hap.1]; simp), if_neg (by simp [Lib.hasPrefix, List.isPrefixOf, Ne.symm h47]), if_pos hb, e, ho]
      rfl
  | @arrow i => exact ⟨rfl, by simp [arrow]⟩
  | @sign c i h =>
    refine ⟨?_, by simp⟩
    show stepL (c :: q) = .tok 2 ⟨#[c]⟩
    have hd : (c :: q).headD 0 = c := rfl
    have hne : isSp c = false ∧ wordB c = false ∧ c ≠ 47 := sg_apart c h
    unfold stepL
    rw [hd, if_neg (by rw [hne.1]; simp), if_neg (by simp [Lib.hasPrefix, List.isPrefixOf, Ne.symm hne.2.2]), if_neg (by rw [hne.2.1]; simp), if_neg ?_, if_pos h]
    intro h2
    unfold Lib.hasPrefix at h2
    rcases hq with rfl | hq
    · simp [List.isPrefixOf] at h2
    · cases q with
      | nil => simp at hq
      | cons b q =>
        have hb : b = 32 := hq
        rw [hb] at h2
        simp [List.isPrefixOf] at h2
def joinG (g : List S36) : List UInt8 := Lib.join (g.map fun t => t.f1.data.toList) [32]
theorem joinG_cons (t u : S36) (g : List S36) : joinG (t :: u :: g) = t.f1.data.toList ++ 32 :: joinG (u :: g) := by
  unfold joinG
  simp [Lib.join]
theorem joined_lx : ∀ (g : List S36), (∀ t ∈ g, Good t) → ∀ (i : Nat) (acc : List S36), ∃ r, Lx (joinG g) i acc (r, .nil) ∧ r.map keyT = acc.map keyT ++ (g.map keyT ++ [(3, [])])
  | [], _, i, acc => ⟨_, .done, by rw [List.map_append]; rfl⟩
  | [t], h, i, acc => by
    obtain ⟨h1, h2⟩ := good_step (h t (List.mem_cons_self ..)) [] (.inl rfl)
    rw [List.append_nil] at h1
    have e : joinG [t] = t.f1.data.toList := by simp [joinG, Lib.join]
    rw [e]
    refine ⟨_, .tok h2 h1 (by rw [List.drop_of_length_le (by rw [data_len]; exact Nat.le_refl _)]; exact .done), ?_⟩
    simp [keyT]
  | t :: u :: g, h, i, acc => by
    obtain ⟨h1, h2⟩ := good_step (h t (List.mem_cons_self ..)) (32 :: joinG (u :: g)) (.inr rfl)
    obtain ⟨r, h3, h4⟩ := joined_lx (u :: g) (fun t h5 => h t (List.mem_cons_of_mem _ h5)) (i + t.f1.size + 1) (acc ++ [⟨t.f0, t.f1, (i : Int)⟩])
    rw [joinG_cons]
    refine ⟨r, .tok (by simp) h1 ?_, ?_⟩
    · rw [List.drop_append_of_le_length (by rw [data_len]; exact Nat.le_refl _), List.drop_of_length_le (by rw [data_len]; exact Nat.le_refl _), List.nil_append]
      exact .skip (by simp) (n := 1) rfl h3
    · rw [h4]
      simp [keyT]
theorem joinL_good (g : List S36) (n : Int) (h : ∀ t ∈ g, Good t) : joinL (g ++ [⟨3, ⟨#[]⟩, n⟩]) = joinG g := by
  unfold joinL joinG textsOf
  congr 1
  rw [List.filter_append]
  have e : g.filter (fun t => decide (t.f0 ≠ 3)) = g := List.filter_eq_self.2 fun t ht => by
    cases h t ht <;> rfl
  rw [e]
  simp
end Go.Proofs.YtepfgckaapmeoaaDoor
