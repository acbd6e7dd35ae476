/-
  Comments and spaces in front of a text and after it change nothing but offsets, as said of lists of bytes.
-/
import Derived.Test.YtepfgckaapmeoaaDoorLexList
import Derived.Test.YtepfgckaapmeoaaDoorLexMatch
namespace Go.Proofs.YtepfgckaapmeoaaDoor
open Go.RowKit Go.Proofs.YtepfgckaapmeoaaDoorW.PrintWords Go.Proofs.YtepfgckaapmeoaaDoorW.PrintLast Go.Proofs.YtepfgckaapmeoaaDoorW.PrintMore Go.Proofs.YtepfgckaapmeoaaDoor.PRef
set_option linter.unusedVariables false

theorem lx_blank {r : List S36 × Er} {rest : List UInt8} : ∀ (b : List UInt8), (∀ x ∈ b, isSp x = true) → ∀ (i : Nat) (acc : List S36), Lx rest (i + b.length) acc r → Lx (b ++ rest) i acc r
  | [], _, i, acc, h => h
  | x :: b, hb, i, acc, h => by
    refine .skip (by simp) (n := 1) ?_ ?_
    · unfold stepL
      exact if_pos (hb x (List.mem_cons_self ..))
    · refine lx_blank b (fun y hy => hb y (List.mem_cons_of_mem _ hy)) (i + 1) acc ?_
      rw [List.length_cons] at h
      rw [show i + 1 + b.length = i + (b.length + 1) from by omega]
      exact h
theorem lx_comment {r : List S36 × Er} {rest : List UInt8} (c : List UInt8) (hc : ∀ x ∈ c, notNL x = true) (hr : rest = [] ∨ rest.headD 0 = 10) (i : Nat) (acc : List S36) (h : Lx rest (i + (c.length + 2)) acc r) : Lx (47 :: 47 :: c ++ rest) i acc r := by
  have e : (47 :: 47 :: c ++ rest).takeWhile notNL = 47 :: 47 :: c := tw_stop notNL (47 :: 47 :: c) rest (fun x hx => by
      rcases List.mem_cons.1 hx with rfl | hx
      · rfl
      rcases List.mem_cons.1 hx with rfl | hx
      · rfl
      exact hc x hx) (by
    rcases hr with hr | hr
    · exact .inl hr
    · exact .inr (by rw [hr]; rfl))
  have hp : Lib.hasPrefix (47 :: 47 :: c ++ rest) [47, 47] = true := by simp [Lib.hasPrefix, List.isPrefixOf]
  have hs : stepL (47 :: 47 :: c ++ rest) = .skip (c.length + 2) := by
    have hd : (47 :: 47 :: c ++ rest).headD 0 = 47 := rfl
    unfold stepL
    rw [hd, if_neg (by decide), if_pos hp, e]
    rfl
  refine .skip (by simp) hs ?_
  have hd : (47 :: 47 :: c ++ rest).drop (c.length + 2) = rest := by
    rw [List.drop_append_of_le_length (by simp), List.drop_of_length_le (by simp)]
    rfl
  rw [hd]
  exact h
theorem tw_app (p : UInt8 → Bool) (hp : p 10 = false) (q : List UInt8) : ∀ l : List UInt8, (l ++ 10 :: q).takeWhile p = l.takeWhile p
  | [] => by rw [List.nil_append, List.takeWhile_cons, if_neg (by rw [hp]; simp)]; rfl
  | x :: l => by
    rw [List.cons_append, List.takeWhile_cons, List.takeWhile_cons, tw_app p hp q l]
theorem pre_app (a b : UInt8) (hb : b ≠ 10) (q : List UInt8) : ∀ l : List UInt8, l ≠ [] → Lib.hasPrefix (l ++ 10 :: q) [a, b] = Lib.hasPrefix l [a, b]
  | [], h => absurd rfl h
  | [x], _ => by simp [Lib.hasPrefix, List.isPrefixOf, hb]
  | x :: y :: l, _ => by simp [Lib.hasPrefix, List.isPrefixOf]
theorem step_app (q l : List UInt8) (hl : l ≠ []) : stepL (l ++ 10 :: q) = stepL l := by
  have hd : (l ++ 10 :: q).headD 0 = l.headD 0 := by
    cases l with
    | nil => exact absurd rfl hl
    | cons x l => rfl
  unfold stepL
  rw [hd, tw_app notNL rfl, tw_app wordB rfl, pre_app 47 47 (by decide) q l hl, pre_app 45 62 (by decide) q l hl]
theorem tw_le (p : UInt8 → Bool) (l : List UInt8) : (l.takeWhile p).length ≤ l.length := (List.takeWhile_prefix p).length_le
theorem pre_le {l : List UInt8} {a b : UInt8} (h : Lib.hasPrefix l [a, b] = true) : 2 ≤ l.length := by
  unfold Lib.hasPrefix at h
  exact (List.isPrefixOf_iff_prefix.1 h).length_le
inductive FitL (l : List UInt8) : Step → Prop where
  | skip {n : Nat} (h : n ≤ l.length) : FitL l (.skip n)
  | tok {kd : Int} {t : ByteArray} (h : t.size ≤ l.length) : FitL l (.tok kd t)
  | bad {c : Int} : FitL l (.bad c)
theorem step_fit (l : List UInt8) (hl : l ≠ []) : FitL l (stepL l) := by
  have h1 : 1 ≤ l.length := List.length_pos_iff.2 hl
  unfold stepL
  split
  · exact .skip h1
  split
  · exact .skip (tw_le notNL l)
  split
  · unfold wordStep
    split
    · refine .tok ?_
      have : (⟨(l.takeWhile wordB).toArray⟩ : ByteArray).size = (l.takeWhile wordB).length := by rw [← data_len]
      rw [this]; exact tw_le wordB l
    · exact .bad
  split
  · rename_i h
    exact .tok (pre_le h)
  split
  · exact .tok h1
  · exact .bad
/-- The same kinds and texts, or the same error at a shifted offset. -/
inductive Shift (d : Nat) : List S36 × Er → List S36 × Er → Prop where
  | good {a b : List S36} (h : a.map keyT = b.map keyT) : Shift d (a, .nil) (b, .nil)
  | bad {c : Int} {i : Nat} : Shift d ([], .fault c i) ([], .fault c ((i + d : Nat) : Int))
theorem lx_shift {l : List UInt8} {i : Nat} {acc : List S36} {r : List S36 × Er} (h : Lx l i acc r) (d : Nat) (q : List UInt8) (hq : ∀ (j : Nat) (acc : List S36), ∃ n, Lx (10 :: q) j acc (acc ++ [⟨3, ⟨#[]⟩, n⟩], .nil)) :
    ∀ acc' : List S36, acc.map keyT = acc'.map keyT → ∃ r', Lx (l ++ 10 :: q) (i + d) acc' r' ∧ Shift d r r' := by
  induction h with
  | @done i acc =>
    intro acc' ha
    obtain ⟨n, hn⟩ := hq (i + d) acc'
    exact ⟨_, hn, .good (by rw [List.map_append, List.map_append, ha]; rfl)⟩
  | @skip l i n acc r hne hs ht ih =>
    intro acc' ha
    obtain ⟨r', h1, h2⟩ := ih acc' ha
    have fit := step_fit l hne
    rw [hs] at fit
    cases fit with
    | skip fit =>
      refine ⟨r', .skip (by simp) ((step_app q l hne).trans hs) ?_, h2⟩
      rw [List.drop_append_of_le_length fit, show i + d + n = i + n + d from by omega]
      exact h1
  | @tok l i kd t acc r hne hs ht ih =>
    intro acc' ha
    obtain ⟨r', h1, h2⟩ := ih (acc' ++ [⟨kd, t, ((i + d : Nat) : Int)⟩]) (by rw [List.map_append, List.map_append, ha]; rfl)
    have fit := step_fit l hne
    rw [hs] at fit
    cases fit with
    | tok fit =>
      refine ⟨r', .tok (by simp) ((step_app q l hne).trans hs) ?_, h2⟩
      rw [List.drop_append_of_le_length fit, show i + d + t.size = i + t.size + d from by omega]
      exact h1
  | @bad l i c acc hne hs => exact fun acc' ha => ⟨_, .bad (by simp) ((step_app q l hne).trans hs), .bad⟩
theorem dw_head (p : UInt8 → Bool) : ∀ l : List UInt8, l.dropWhile p = [] ∨ p ((l.dropWhile p).headD 0) = false
  | [] => .inl rfl
  | x :: l => by
    cases hx : p x with
    | true => rw [List.dropWhile_cons, if_pos hx]; exact dw_head p l
    | false => rw [List.dropWhile_cons, if_neg (by rw [hx]; simp)]; exact .inr hx
theorem nl_ten (x : UInt8) (h : notNL x = false) : x = 10 := by
  have h1 := every_byte (P := fun c => notNL c || decide (c = 10)) (by decide +kernel) x
  rw [h] at h1
  simpa using h1
theorem lx_tail (c b : List UInt8) (hc : ∀ x ∈ c, notNL x = true) (hb : ∀ x ∈ b, isSp x = true) (j : Nat) (acc : List S36) : ∃ n, Lx (10 :: (47 :: 47 :: (c ++ b))) j acc (acc ++ [⟨3, ⟨#[]⟩, n⟩], .nil) := by
  refine ⟨((j + 1 + ((c ++ b.takeWhile notNL).length + 2) + (b.dropWhile notNL).length : Nat) : Int), .skip (by simp) (n := 1) rfl ?_⟩
  have e : (10 :: (47 :: 47 :: (c ++ b))).drop 1 = 47 :: 47 :: (c ++ b.takeWhile notNL) ++ b.dropWhile notNL := by
    rw [List.cons_append, List.cons_append, List.append_assoc, List.takeWhile_append_dropWhile]
    rfl
  rw [e]
  refine lx_comment _ (fun x hx => ?_) ?_ _ _ ?_
  · rcases List.mem_append.1 hx with hx | hx
    · exact hc x hx
    · exact tw_all notNL b x hx
  · rcases dw_head notNL b with h | h
    · exact .inl h
    · exact .inr (nl_ten _ h)
  · have h := lx_blank (rest := []) (r := (acc ++ [⟨3, ⟨#[]⟩, ((j + 1 + ((c ++ b.takeWhile notNL).length + 2) + (b.dropWhile notNL).length : Nat) : Int)⟩], .nil)) (b.dropWhile notNL) (fun x hx => hb x ((List.dropWhile_suffix notNL).subset hx)) (j + 1 + ((c ++ b.takeWhile notNL).length + 2)) acc .done
    rw [List.append_nil] at h
    exact h
/-- The text with its comments and spaces. -/
def wrapped (blank c s : ByteArray) : ByteArray := blank ++ ⟨#[47, 47]⟩ ++ c ++ ⟨#[10]⟩ ++ s ++ ⟨#[10, 47, 47]⟩ ++ c ++ blank
def frontN (blank c : ByteArray) : Nat := blank.size + (c.size + 2) + 1
theorem wrapped_go (blank c s : ByteArray) (hc : ∀ x ∈ c.data.toList, notNL x = true) (hb : ∀ x ∈ blank.data.toList, isSp x = true) (K : Nat) (r : List S36 × Er) (h : tokGo s K 0 [] = some r) :
    ∃ k r', tokGo (wrapped blank c s) k 0 [] = some r' ∧ Shift (frontN blank c) r r' := by
  obtain ⟨r', h1, h2⟩ := lx_shift (lx_of_go s K 0 [] r h (Nat.zero_le _)) (frontN blank c) (47 :: 47 :: (c.data.toList ++ blank.data.toList)) (lx_tail _ _ hc hb) [] rfl
  have e : (wrapped blank c s).data.toList = blank.data.toList ++ (47 :: 47 :: c.data.toList ++ (10 :: (s.data.toList ++ 10 :: (47 :: 47 :: (c.data.toList ++ blank.data.toList))))) := by
    unfold wrapped
    simp
  have h3 : Lx (wrapped blank c s).data.toList 0 [] r' := by
    rw [e]
    refine lx_blank _ hb 0 [] (lx_comment _ hc (.inr rfl) _ _ (.skip (by simp) (n := 1) rfl ?_))
    rw [data_len, data_len]
    unfold frontN at h1
    rw [List.drop_zero] at h1
    rw [show 0 + blank.size + (c.size + 2) + 1 = 0 + (blank.size + (c.size + 2) + 1) from by omega]
    exact h1
  obtain ⟨k, h4⟩ := go_of_lx (wrapped blank c s) h3 (Nat.zero_le _) rfl
  exact ⟨k, r', h4, h2⟩
end Go.Proofs.YtepfgckaapmeoaaDoor
