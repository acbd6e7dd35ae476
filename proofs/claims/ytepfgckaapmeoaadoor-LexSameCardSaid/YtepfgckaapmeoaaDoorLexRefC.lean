/-
  What the reference's Tokens computes, as printed: the same as the plain function of the implementation's tokens.
-/
import Derived.Test.YtepfgckaapmeoaaDoorLexRefB
import Derived.Test.YtepfgckaapmeoaaDoorLexTokens
namespace Go.Proofs.YtepfgckaapmeoaaDoor
open Go.RowKit Go.Proofs.YtepfgckaapmeoaaDoorW.PrintWords Go.Proofs.YtepfgckaapmeoaaDoorW.PrintLast Go.Proofs.YtepfgckaapmeoaaDoorW.PrintMore Go.Proofs.YtepfgckaapmeoaaDoor.PRef
set_option linter.unusedVariables false

theorem tw_spec (p : UInt8 → Bool) : ∀ l : List UInt8, (∀ d, d < (l.takeWhile p).length → p (l.getD d 0) = true) ∧ ((l.takeWhile p).length = l.length ∨ ((l.takeWhile p).length < l.length ∧ p (l.getD (l.takeWhile p).length 0) = false))
  | [] => ⟨fun d h => by simp at h, .inl rfl⟩
  | b :: l => by
    obtain ⟨h1, h2⟩ := tw_spec p l
    cases hb : p b with
    | true =>
      rw [List.takeWhile_cons, if_pos hb]
      refine ⟨fun d hd => ?_, ?_⟩
      · cases d with
        | zero => exact hb
        | succ d => exact h1 d (by simpa using hd)
      · rcases h2 with h2 | ⟨h2, h3⟩
        · exact .inl (by simp [h2])
        · exact .inr ⟨by simpa using h2, h3⟩
    | false =>
      rw [List.takeWhile_cons, if_neg (by rw [hb]; simp)]
      exact ⟨fun d hd => by simp at hd, .inr ⟨by simp, hb⟩⟩
theorem ext_list (s : ByteArray) (a b : Nat) : (s.extract a b).data.toList = (s.data.toList.drop a).take (b - a) := by
  rw [ByteArray.data_extract, Array.toList_extract, List.extract_eq_take_drop]
theorem ext_drop (s : ByteArray) (i : Nat) : (s.extract i s.size).data.toList = s.data.toList.drop i := by
  rw [ext_list]
  exact List.take_of_length_le (by rw [List.length_drop, data_len]; exact Nat.le_refl _)
theorem drop_getD (s : ByteArray) (i d : Nat) : (s.data.toList.drop i).getD d 0 = atB s (i + d) := by
  unfold atB
  rw [List.getD_eq_getElem?_getD, List.getD_eq_getElem?_getD, List.getElem?_drop]
theorem runN_spec (p : UInt8 → Bool) (s : ByteArray) (i : Nat) (h : i ≤ s.size) : (∀ d, d < runN p (s.extract i s.size) → p (atB s (i + d)) = true) ∧
    (i + runN p (s.extract i s.size) = s.size ∨ (i + runN p (s.extract i s.size) < s.size ∧ p (atB s (i + runN p (s.extract i s.size))) = false)) := by
  obtain ⟨h1, h2⟩ := tw_spec p (s.data.toList.drop i)
  unfold runN
  rw [ext_drop]
  have hl : (s.data.toList.drop i).length = s.size - i := by rw [List.length_drop, data_len]
  rw [hl] at h2
  refine ⟨fun d hd => by rw [← drop_getD]; exact h1 d hd, ?_⟩
  rcases h2 with h2 | ⟨h2, h3⟩
  · exact .inl (by omega)
  · exact .inr ⟨by omega, by rw [← drop_getD]; exact h3⟩
theorem wordAt_ext (s : ByteArray) (i : Nat) : s.extract i (i + (wordAt s i).size) = wordAt s i := by
  have hn := (wordAt_size s i).1
  refine WideShapes.bytes_inj ?_
  rw [ext_list, hn, wordAt_def, ext_list, ext_drop, List.drop_zero]
  congr 1
  omega
theorem oneAt_ext (s : ByteArray) (i : Nat) : s.extract i (i + 1) = oneAt s i := by
  refine WideShapes.bytes_inj ?_
  rw [ext_list, oneAt_def, ext_list, ext_drop, List.drop_zero]
  congr 1
  omega
/-- The byte behind an offset, or 0. -/
def nextC (s : ByteArray) (i : Nat) : Int := if i + 1 < s.size then bt s ((i + 1 : Nat) : Int) else 0
theorem pre_iff {s : ByteArray} {i : Nat} (h : i < s.size) (a b : UInt8) (hb : b ≠ 0) : Lib.hasPrefix (s.extract i s.size).data.toList [a, b] = true ↔ bt s (i : Int) = (a.toNat : Int) ∧ nextC s i = (b.toNat : Int) := by
  rw [ext_drop, drop_cons s i h, bt_atB s i h]
  unfold Lib.hasPrefix nextC
  by_cases h1 : i + 1 < s.size
  · rw [if_pos h1, drop_cons s (i + 1) h1, bt_atB s (i + 1) h1]
    simp only [List.isPrefixOf_cons_cons, List.isPrefixOf_nil_left, Bool.and_true, Bool.and_eq_true, beq_iff_eq]
    constructor
    · rintro ⟨h2, h3⟩; rw [← h2, ← h3]; exact ⟨rfl, rfl⟩
    · rintro ⟨h2, h3⟩; exact ⟨UInt8.toNat_inj.1 (by omega), UInt8.toNat_inj.1 (by omega)⟩
  · rw [if_neg h1, List.drop_of_length_le (by rw [data_len]; omega)]
    constructor
    · intro h2; simp [List.isPrefixOf] at h2
    · rintro ⟨_, h3⟩
      exact absurd (UInt8.toNat_inj.1 (by have : (0 : UInt8).toNat = 0 := rfl; omega)) hb
theorem pre1_iff {s : ByteArray} {i : Nat} (h : i < s.size) : pre1 s i = true ↔ bt s (i : Int) = 47 ∧ nextC s i = 47 := by
  rw [pre1_def]; exact pre_iff h 47 47 (by decide)
theorem pre2_iff {s : ByteArray} {i : Nat} (h : i < s.size) : pre2 s i = true ↔ bt s (i : Int) = 45 ∧ nextC s i = 62 := by
  rw [pre2_def]; exact pre_iff h 45 62 (by decide)

def c37 (t : S36) : S37 := ⟨t.f0, t.f1, t.f2⟩
def outR (r : List S36 × Er) : List S37 × Int × Int := (r.1.map c37, r.2.c, r.2.a)
def T0 (s : ByteArray) (i : Nat) (acc : List S37) (k : Nat) : Option (List S37 × Int × Int) := vestryref09_Tokens.l0 k s lettersB (i : Int) acc 0 0
theorem l1_ev {s : ByteArray} (hs : s.size ≤ 65536) {i : Nat} {c : Int} {acc : List S37} {r : List S37 × Int × Int} (hi : i ≤ s.size)
    (h : Ev (fun k => vestryref09_Tokens.j2 k s lettersB (i : Int) c ((i + runN wordB (s.extract i s.size) : Nat) : Int) acc 0 0) r) :
    ∀ (d j : Nat), i ≤ j → j + d = i + runN wordB (s.extract i s.size) → Ev (fun k => vestryref09_Tokens.l1 k s lettersB (i : Int) c (j : Int) acc 0 0) r
  | 0, j, h1, h2 => by
    obtain ⟨q1, q2⟩ := runN_spec wordB s i hi
    have hj : j = i + runN wordB (s.extract i s.size) := by omega
    rw [← hj] at q2 h
    rcases q2 with q2 | ⟨q2, q3⟩
    · refine Ev.step (fun k => ?_) h
      simp only [vestryref09_Tokens.l1]
      rw [if_neg (by omega)]
    · refine Ev.step (f := fun k => (vestryref09_in.f k lettersB (bt s (j : Int))).bind fun t => if t = true then vestryref09_Tokens.l1 k s lettersB (i : Int) c (wrap64 ((j : Int) + 1)) acc 0 0 else vestryref09_Tokens.j2 k s lettersB (i : Int) c (j : Int) acc 0 0) (fun k => ?_) ?_
      · simp only [vestryref09_Tokens.l1]
        rw [if_pos (by omega), if_pos (by omega)]
      · rw [bt_atB s j q2]
        refine Ev.bind (f := fun k t => if t = true then vestryref09_Tokens.l1 k s lettersB (i : Int) c (wrap64 ((j : Int) + 1)) acc 0 0 else vestryref09_Tokens.j2 k s lettersB (i : Int) c (j : Int) acc 0 0) (in_ev lettersB (atB s j) (by decide)) ?_
        rw [letters_word, q3]
        exact Ev.congr (fun k => if_neg (by simp)) h
  | d + 1, j, h1, h2 => by
    obtain ⟨q1, q2⟩ := runN_spec wordB s i hi
    have hn := runN_le wordB (s.extract i s.size)
    rw [extract_size] at hn
    have hj : j < s.size := by omega
    have hw : wordB (atB s j) = true := by
      have := q1 (j - i) (by omega)
      rwa [show i + (j - i) = j from by omega] at this
    have ih := l1_ev hs hi h d (j + 1) (by omega) (by omega)
    refine Ev.step (f := fun k => (vestryref09_in.f k lettersB (bt s (j : Int))).bind fun t => if t = true then vestryref09_Tokens.l1 k s lettersB (i : Int) c (wrap64 ((j : Int) + 1)) acc 0 0 else vestryref09_Tokens.j2 k s lettersB (i : Int) c (j : Int) acc 0 0) (fun k => ?_) ?_
    · simp only [vestryref09_Tokens.l1]
      rw [if_pos (by omega), if_pos (by omega)]
    · rw [bt_atB s j hj]
      refine Ev.bind (f := fun k t => if t = true then vestryref09_Tokens.l1 k s lettersB (i : Int) c (wrap64 ((j : Int) + 1)) acc 0 0 else vestryref09_Tokens.j2 k s lettersB (i : Int) c (j : Int) acc 0 0) (in_ev lettersB (atB s j) (by decide)) ?_
      rw [letters_word, hw]
      refine Ev.congr (fun k => ?_) ih
      rw [if_pos rfl, wrap_ok _ (by omega)]
      rfl
theorem l2_ev {s : ByteArray} (hs : s.size ≤ 65536) {i : Nat} {acc : List S37} {r : List S37 × Int × Int} (hi : i ≤ s.size)
    (h : Ev (T0 s (i + runN notNL (s.extract i s.size)) acc) r) :
    ∀ (d j : Nat), i ≤ j → j + d = i + runN notNL (s.extract i s.size) → Ev (fun k => vestryref09_Tokens.l2 k s lettersB (j : Int) acc 0 0) r
  | 0, j, h1, h2 => by
    obtain ⟨q1, q2⟩ := runN_spec notNL s i hi
    have hj : j = i + runN notNL (s.extract i s.size) := by omega
    rw [← hj] at q2 h
    refine Ev.step (fun k => ?_) h
    simp only [vestryref09_Tokens.l2]
    rcases q2 with q2 | ⟨q2, q3⟩
    · rw [if_neg (by omega)]; rfl
    · have e : bt s (j : Int) = 10 := by
        rw [bt_atB s j q2]
        unfold notNL at q3
        have := of_decide_eq_false q3
        omega
      rw [if_pos (by omega), if_pos (by omega), if_pos e]; rfl
  | d + 1, j, h1, h2 => by
    obtain ⟨q1, q2⟩ := runN_spec notNL s i hi
    have hn := runN_le notNL (s.extract i s.size)
    rw [extract_size] at hn
    have hj : j < s.size := by omega
    have hw : notNL (atB s j) = true := by
      have := q1 (j - i) (by omega)
      rwa [show i + (j - i) = j from by omega] at this
    have ih := l2_ev hs hi h d (j + 1) (by omega) (by omega)
    refine Ev.step (fun k => ?_) ih
    have e : ¬ bt s (j : Int) = 10 := by
      rw [bt_atB s j hj]
      unfold notNL at hw
      exact of_decide_eq_true hw
    simp only [vestryref09_Tokens.l2]
    rw [if_pos (by omega), if_pos (by omega), if_neg e, wrap_ok _ (by omega)]
    rfl
end Go.Proofs.YtepfgckaapmeoaaDoor
