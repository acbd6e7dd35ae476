/-
  What the reference's Tokens computes, as printed: the same as the plain function of the implementation's tokens.
-/
import Derived.Test.YtepfgckaapmeoaaDoorPRefx2
import Derived.Test.YtepfgckaapmeoaaDoorLexTok
import Derived.Test.YtepfgckaapmeoaaDoorLexRefA
namespace Go.Proofs.YtepfgckaapmeoaaDoor
open Go.RowKit Go.Proofs.YtepfgckaapmeoaaDoorW.PrintWords Go.Proofs.YtepfgckaapmeoaaDoorW.PrintLast Go.Proofs.YtepfgckaapmeoaaDoorW.PrintMore Go.Proofs.YtepfgckaapmeoaaDoor.PRef
set_option linter.unusedVariables false

theorem data_len (s : ByteArray) : s.data.toList.length = s.size := Array.length_toList
theorem bt_atB (s : ByteArray) (i : Nat) (h : i < s.size) : bt s (i : Int) = ((atB s i).toNat : Int) := by rw [bt_get s i h, atB_eq s i h]
theorem getD_atB (s : ByteArray) (i : Nat) : s.data.toList.getD i 0 = atB s i := rfl
theorem find_ev (s : ByteArray) (c : Int) (hs : s.size ≤ 1000) : ∀ (d i : Nat), i + d = s.size → ∃ t, Ev (fun k => vestryref08_Find.l0 k s c (i : Int)) t ∧ (0 ≤ t ↔ ∃ j, i ≤ j ∧ j < s.size ∧ bt s (j : Int) = c)
  | 0, i, h => ⟨-1, Ev.step (f := fun _ => some (-1)) (fun k => by simp only [vestryref08_Find.l0]; rw [if_neg (by omega)]) (Ev.now _), by
      constructor
      · intro h0; omega
      · rintro ⟨j, h1, h2, _⟩; omega⟩
  | d + 1, i, h => by
    by_cases hb : bt s (i : Int) = c
    · exact ⟨(i : Int), Ev.step (f := fun _ => some (i : Int)) (fun k => by simp only [vestryref08_Find.l0]; rw [if_pos (by omega), if_pos (by omega), if_pos hb]) (Ev.now _), ⟨fun _ => ⟨i, Nat.le_refl _, by omega, hb⟩, fun _ => by omega⟩⟩
    · obtain ⟨t, ht, hi⟩ := find_ev s c hs d (i + 1) (by omega)
      refine ⟨t, Ev.step (fun k => ?_) ht, ?_⟩
      · simp only [vestryref08_Find.l0]
        rw [if_pos (by omega), if_pos (by omega), if_neg hb, wrap_ok _ (by omega)]
        rfl
      · rw [hi]
        constructor
        · rintro ⟨j, h1, h2, h3⟩; exact ⟨j, by omega, h2, h3⟩
        · rintro ⟨j, h1, h2, h3⟩
          refine ⟨j, ?_, h2, h3⟩
          rcases Nat.lt_or_ge i j with h4 | h4
          · exact h4
          · have : j = i := by omega
            subst this; exact absurd h3 hb
/-- Is a byte's number in a set? -/
def inB (s : ByteArray) (c : UInt8) : Bool := decide (c ∈ s.data.toList)
theorem in_ev (s : ByteArray) (c : UInt8) (hs : s.size ≤ 1000) : Ev (fun k => vestryref09_in.f k s (c.toNat : Int)) (inB s c) := by
  obtain ⟨t, ht, hi⟩ := find_ev s (c.toNat : Int) hs s.size 0 (by omega)
  have e : inB s c = decide (t ≥ 0) := by
    unfold inB
    rw [decide_eq_decide]
    show _ ↔ 0 ≤ t
    rw [hi]
    constructor
    · intro hm
      obtain ⟨j, hj⟩ := List.getElem?_of_mem hm
      obtain ⟨hlt, hj2⟩ := List.getElem?_eq_some_iff.1 hj
      rw [data_len] at hlt
      refine ⟨j, Nat.zero_le _, hlt, ?_⟩
      rw [bt_atB s j hlt, atB, List.getD_eq_getElem?_getD, hj]; rfl
    · rintro ⟨j, _, hlt, hj⟩
      rw [bt_atB s j hlt] at hj
      have h1 : atB s j = c := UInt8.toNat_inj.1 (by omega)
      rw [← h1, ← atB_eq s j hlt]
      have h2 : s[j] = s.data.toList[j]'(by rw [data_len]; exact hlt) := rfl
      rw [h2]; exact List.getElem_mem _
  rw [e]
  exact Ev.bind (f := fun _ t101 => some (decide (t101 ≥ 0))) ht (Ev.now _)
def lettersB : ByteArray := ⟨#[97, 98, 99, 100, 101, 102, 103, 104, 105, 106, 107, 108, 109, 110, 111, 112, 113, 114, 115, 116, 117, 118, 119, 120, 121, 122, 65, 66, 67, 68, 69, 70, 71, 72, 73, 74, 75, 76, 77, 78, 79, 80, 81, 82, 83, 84, 85, 86, 87, 88, 89, 90, 48, 49, 50, 51, 52, 53, 54, 55, 56, 57, 95]⟩
theorem every_byte {P : UInt8 → Bool} (h : ∀ n, n < 256 → P (UInt8.ofNat n) = true) (c : UInt8) : P c = true := by
  have h1 := h c.toNat c.toNat_lt
  rw [UInt8.ofNat_toNat] at h1
  exact h1
theorem letters_word (c : UInt8) : inB lettersB c = wordB c := by
  have h := every_byte (P := fun c => inB lettersB c == wordB c) (by decide +kernel) c
  exact eq_of_beq h
theorem spaces_in (c : UInt8) : inB ⟨#[32, 9, 10, 13]⟩ c = isSp c := rfl
theorem signs_in (c : UInt8) : inB ⟨#[123, 125, 40, 41, 58, 59, 61, 124, 35, 43, 38, 45]⟩ c = isSg c := rfl
theorem word_apart (c : UInt8) (h : wordB c = true) : isSp c = false ∧ (c.toNat : Int) ≠ 47 := by
  have h1 := every_byte (P := fun c => !wordB c || (!isSp c && decide ((c.toNat : Int) ≠ 47))) (by decide +kernel) c
  rw [h] at h1
  simpa using h1
theorem reserved_f (s : ByteArray) : vestryref08_Reserved.f s = some (resB s.data.toList) := by
  unfold vestryref08_Reserved.f resB
  rw [ByteArray.toList_eq]
  by_cases h1 : s.data.toList = [100, 101, 102, 105, 110, 105, 116, 105, 111, 110]
  · rw [if_pos h1, h1]; rfl
  · rw [if_neg h1]
    by_cases h2 : s.data.toList = [114, 101, 108, 97, 116, 105, 111, 110]
    · rw [if_pos h2, h2]; rfl
    · rw [if_neg h2]
      have e1 : (s.data.toList == [100, 101, 102, 105, 110, 105, 116, 105, 111, 110]) = false := by simpa using h1
      have e2 : (s.data.toList == [114, 101, 108, 97, 116, 105, 111, 110]) = false := by simpa using h2
      rw [e1, e2]; rfl
/-- Can a byte be in a name? -/
def nameB (c : UInt8) : Bool := decide (c ∈ nameL)
theorem small_f (c : UInt8) : vestryref08_small.f (c.toNat : Int) = some (decide (c ∈ smallL)) := by
  have h := every_byte (P := fun c => decide (vestryref08_small.f (c.toNat : Int) = some (decide (c ∈ smallL)))) (by decide +kernel) c
  exact of_decide_eq_true h
theorem name_f (c : UInt8) : ((decide (c ∈ smallL) = true ∨ vestryref08_digit.f (c.toNat : Int) = some true ∨ (c.toNat : Int) = 95) ↔ nameB c = true) ∧ (vestryref08_digit.f (c.toNat : Int) = some true ∨ vestryref08_digit.f (c.toNat : Int) = some false) := by
  have h := every_byte (P := fun c => (decide (decide (c ∈ smallL) = true ∨ vestryref08_digit.f (c.toNat : Int) = some true ∨ (c.toNat : Int) = 95) == nameB c) && decide (vestryref08_digit.f (c.toNat : Int) = some true ∨ vestryref08_digit.f (c.toNat : Int) = some false)) (by decide +kernel) c
  rw [Bool.and_eq_true] at h
  refine ⟨?_, of_decide_eq_true h.2⟩
  have h1 := eq_of_beq h.1
  exact ⟨fun h0 => by rw [← h1]; exact decide_eq_true h0, fun h0 => of_decide_eq_true (h1.trans h0)⟩
theorem drop_cons (s : ByteArray) (i : Nat) (h : i < s.size) : s.data.toList.drop i = atB s i :: s.data.toList.drop (i + 1) := by
  rw [List.drop_eq_getElem_cons (by rw [data_len]; exact h)]
  congr 1
  rw [← atB_eq s i h]; rfl
theorem is_loop (s : ByteArray) (hs : s.size ≤ 1000) : ∀ (d i : Nat), i + d = s.size → Ev (fun k => vestryref08_Is.l0 k s (i : Int)) ((s.data.toList.drop i).all nameB)
  | 0, i, h => by
    rw [List.drop_of_length_le (by rw [data_len]; omega)]
    exact Ev.step (f := fun _ => some true) (fun k => by simp only [vestryref08_Is.l0]; rw [if_neg (by omega)]) (Ev.now _)
  | d + 1, i, h => by
    have hi : i < s.size := by omega
    have ih := is_loop s hs d (i + 1) (by omega)
    obtain ⟨hn, hd⟩ := name_f (atB s i)
    rw [drop_cons s i hi, List.all_cons]
    cases hb : nameB (atB s i) with
    | true =>
      rw [Bool.true_and]
      refine Ev.step (fun k => ?_) ih
      simp only [vestryref08_Is.l0]
      rw [if_pos (by omega), if_pos (by omega), bt_atB s i hi, small_f, Option.bind_some, wrap_ok _ (by omega)]
      rcases hn.2 hb with h1 | h1 | h1
      · rw [if_pos h1]; rfl
      · by_cases h0 : decide (atB s i ∈ smallL) = true
        · rw [if_pos h0]; rfl
        · rw [if_neg h0, h1, Option.bind_some, if_pos rfl]; rfl
      · by_cases h0 : decide (atB s i ∈ smallL) = true
        · rw [if_pos h0]; rfl
        · rw [if_neg h0]
          rcases hd with h2 | h2
          · rw [h2, Option.bind_some, if_pos rfl]; rfl
          · rw [h2, Option.bind_some, if_neg (by simp), if_pos h1]; rfl
    | false =>
      rw [Bool.false_and]
      have hno : ¬ (decide (atB s i ∈ smallL) = true ∨ vestryref08_digit.f ((atB s i).toNat : Int) = some true ∨ ((atB s i).toNat : Int) = 95) := fun h0 => by rw [hn.1 h0] at hb; cases hb
      refine Ev.step (f := fun _ => some false) (fun k => ?_) (Ev.now _)
      simp only [vestryref08_Is.l0]
      rw [if_pos (by omega), if_pos (by omega), bt_atB s i hi, small_f, Option.bind_some, if_neg (fun h0 => hno (.inl h0))]
      rcases hd with h2 | h2
      · exact absurd (.inr (.inl h2)) hno
      · rw [h2, Option.bind_some, if_neg (by simp), if_neg (fun h0 => hno (.inr (.inr h0)))]
theorem is_ev (s : ByteArray) : Ev (fun k => vestryref08_Is.f k s) (isB s.data.toList) := by
  have j0t : Ev (fun k => vestryref08_Is.j0 k s true) false := Ev.step (f := fun _ => some false) (fun k => by simp [vestryref08_Is.j0]) (Ev.now _)
  by_cases h1 : (s.size : Int) < 1
  · have e : s.data.toList = [] := List.length_eq_zero_iff.1 (by rw [data_len]; omega)
    rw [e]
    exact Ev.congr (fun k => by unfold vestryref08_Is.f; rw [if_pos h1]) j0t
  by_cases h2 : (s.size : Int) > 64
  · have e : isB s.data.toList = false := by
      unfold isB
      rw [data_len, decide_eq_false (by omega : ¬ s.size ≤ 64)]
      simp
    rw [e]
    exact Ev.congr (fun k => by unfold vestryref08_Is.f; rw [if_neg h1, if_pos h2]) j0t
  have h3 : 0 < (s.size : Int) := by omega
  have hne : s.data.toList.isEmpty = false := by
    rw [List.isEmpty_eq_false_iff]; intro e; have := data_len s; rw [e] at this; simp at this; omega
  have htk : s.data.toList.take 1 = [atB s 0] := by
    have h0 := drop_cons s 0 (by omega)
    rw [List.drop_zero] at h0
    rw [h0]; rfl
  have eis : isB s.data.toList = (decide (atB s 0 ∈ smallL) && (s.data.toList.all nameB && !resB s.data.toList)) := by
    unfold isB
    rw [hne, data_len, decide_eq_true (by omega : s.size ≤ 64), htk, show hasB smallL [atB s 0] = decide (atB s 0 ∈ smallL) from by simp [hasB], show hasB nameL s.data.toList = s.data.toList.all nameB from rfl]
    rfl
  have eb := bt_atB s 0 (by omega)
  rw [eis]
  cases hsm : decide (atB s 0 ∈ smallL) with
  | false =>
    rw [Bool.false_and]
    refine Ev.congr (fun k => ?_) j0t
    unfold vestryref08_Is.f
    rw [if_neg h1, if_neg h2, if_pos h3]
    have eb2 : bt s 0 = ((atB s 0).toNat : Int) := eb
    rw [eb2, small_f, Option.bind_some, if_neg (by rw [hsm]; simp)]
  | true =>
    rw [Bool.true_and]
    have hf : ∀ k, vestryref08_Is.f k s = vestryref08_Is.j0 k s (resB s.data.toList) := fun k => by
      unfold vestryref08_Is.f
      rw [if_neg h1, if_neg h2, if_pos h3]
      have eb2 : bt s 0 = ((atB s 0).toNat : Int) := eb
      rw [eb2, small_f, Option.bind_some, if_pos hsm, reserved_f, Option.bind_some]
    cases hr : resB s.data.toList with
    | true =>
      rw [Bool.not_true, Bool.and_false]
      exact Ev.congr (fun k => by rw [hf, hr]) j0t
    | false =>
      rw [Bool.not_false, Bool.and_true]
      refine Ev.congr (f := fun k => vestryref08_Is.j0 k s false) (fun k => by rw [hf, hr]) ?_
      refine Ev.step (f := fun k => vestryref08_Is.l0 k s 0) (fun k => by simp [vestryref08_Is.j0]) ?_
      have := is_loop s (by omega) s.size 0 (by omega)
      rw [List.drop_zero] at this
      exact this
end Go.Proofs.YtepfgckaapmeoaaDoor
