/-
  The contracts of package lex's inWord and run: what they answer is said by plain functions on lists of bytes.
-/
import Derived.Test.YtepfgckaapmeoaaDoorName
namespace Go.Proofs.YtepfgckaapmeoaaDoor
open Go.RowKit

/-- Can a byte be in a word? -/
def wordB (c : UInt8) : Bool := decide (97 ≤ (c.toNat : Int) ∧ (c.toNat : Int) ≤ 122 ∨ 65 ≤ (c.toNat : Int) ∧ (c.toNat : Int) ≤ 90 ∨ 48 ≤ (c.toNat : Int) ∧ (c.toNat : Int) ≤ 57 ∨ (c.toNat : Int) = 95)
def notNL (c : UInt8) : Bool := decide ((c.toNat : Int) ≠ 10)
set_option maxHeartbeats 1000000 in
theorem inWord_any (c : UInt8) (w : World) : Calls Tryd.prog 22 #[.int .u8 c.toNat] w fun e w' => e = .returned (.bool (wordB c)) ∧ w = w' := by
  go_enter Tryd.func22, Tryd.ntmps22
  go_wp2
  all_goals go_ret
  all_goals refine ⟨ret_bool ?_, rfl⟩
  all_goals unfold wordB
  all_goals first | (symm; simp only [decide_eq_true_eq]; omega) | (rw [Bool.eq_iff_iff]; simp; omega)
theorem notNL_any (c : UInt8) (w : World) : Calls Tryd.prog 25 #[.int .u8 c.toNat] w fun e w' => e = .returned (.bool (notNL c)) ∧ w = w' := by
  go_enter Tryd.func25, Tryd.ntmps25
  go_wp2
  all_goals go_ret
  all_goals refine ⟨ret_bool ?_, rfl⟩
  all_goals unfold notNL
  all_goals rw [Bool.eq_iff_iff]; simp


theorem all_snoc {p : UInt8 → Bool} {s : ByteArray} {k : Nat} (h : k < s.size) (hb : (s.data.toList.take k).all p = true) (hm : p s[k] = true) : (s.data.toList.take (k + 1)).all p = true := by
  rw [take_snoc s k h, List.all_append, hb]; simpa using hm
/-- The longest beginning of bytes for which p holds. -/
def runN (p : UInt8 → Bool) (s : ByteArray) : Nat := (s.data.toList.takeWhile p).length
theorem runN_le (p : UInt8 → Bool) (s : ByteArray) : runN p s ≤ s.size := by
  have h1 := (List.takeWhile_prefix (l := s.data.toList) p).length_le
  rw [Array.length_toList] at h1
  exact h1
theorem runN_stop {p : UInt8 → Bool} {s : ByteArray} {k : Nat} (h : k < s.size) (hb : (s.data.toList.take k).all p = true) (hm : p s[k] = false) : runN p s = k := by
  have hl : s.data.toList.length = s.size := by rw [Array.length_toList]; rfl
  have hg : s.data.toList[k]'(by omega) = s[k] := rfl
  have e : s.data.toList = s.data.toList.take k ++ s[k] :: s.data.toList.drop (k + 1) := by
    conv => lhs; rw [← List.take_append_drop k s.data.toList, List.drop_eq_getElem_cons (by omega), hg]
  unfold runN
  rw [e, List.takeWhile_append_of_pos (List.all_eq_true.1 hb), List.takeWhile_cons]
  simp [hm]
  omega
theorem runN_end {p : UInt8 → Bool} {s : ByteArray} (hb : (s.data.toList.take s.size).all p = true) : runN p s = s.size := by
  have hl : s.data.toList.length = s.size := by rw [Array.length_toList]; rfl
  rw [List.take_of_length_le (by omega)] at hb
  unfold runN
  have := List.takeWhile_append_of_pos (p := p) (l₁ := s.data.toList) (l₂ := []) (List.all_eq_true.1 hb)
  rw [List.append_nil] at this
  rw [this, List.takeWhile_nil, List.append_nil, hl]
def RunsTo (p : UInt8 → Bool) (s : ByteArray) (e : Ending) : Prop := e = .returned (.string (s.extract 0 (runN p s)))

set_option maxHeartbeats 2000000 in
theorem run_word (s : ByteArray) (w : World) (hs : s.size ≤ 140737488351232) :
    Calls Tryd.prog 21 #[.string s, .func (.func 22) #[] #[]] w fun e w' => RunsTo wordB s e ∧ w = w' := by
  go_enter Tryd.func21, Tryd.ntmps21
  go_wp2_with fail
  go_loop [5] (fun n => ∃ k : Nat, k ≤ s.size ∧ n = .int .i64 k ∧ (s.data.toList.take k).all wordB = true) (fun n => s.size - (intOf n).toNat)
  case atStart => exact ⟨0, Nat.zero_le _, rfl, rfl⟩
  case round =>
    obtain ⟨k, hk, rfl, hb⟩ := hrel
    have hB := Lib.hid hb
    clear hb
    by_cases hlt : k < s.size
    · go_wp2_with (go_at_call 22; refine (inWord_any _ _).mono ?_; rintro e w' ⟨rfl, rfl⟩)
      · have hm : wordB s[k] = true := by assumption
        go_round
        case rel => exact ⟨k + 1, by omega, by go_num, all_snoc hlt hB.out hm⟩
        case measure => simp [intOf]; omega
      · have hm : wordB s[k] = false := by assumption
        go_ret
        exact ⟨show RunsTo wordB s (.returned (.string (s.extract 0 k))) by unfold RunsTo; rw [runN_stop hlt hB.out hm], rfl⟩
    · go_wp2
      go_ret
      have hk2 : k = s.size := by omega
      have hb := hB.out
      rw [hk2] at hb
      exact ⟨show RunsTo wordB s (.returned (.string (s.extract 0 k))) by unfold RunsTo; rw [runN_end hb, hk2], rfl⟩

set_option maxHeartbeats 2000000 in
theorem run_nl (s : ByteArray) (w : World) (hs : s.size ≤ 140737488351232) :
    Calls Tryd.prog 21 #[.string s, .func (.func 25) #[] #[]] w fun e w' => RunsTo notNL s e ∧ w = w' := by
  go_enter Tryd.func21, Tryd.ntmps21
  go_wp2_with fail
  go_loop [5] (fun n => ∃ k : Nat, k ≤ s.size ∧ n = .int .i64 k ∧ (s.data.toList.take k).all notNL = true) (fun n => s.size - (intOf n).toNat)
  case atStart => exact ⟨0, Nat.zero_le _, rfl, rfl⟩
  case round =>
    obtain ⟨k, hk, rfl, hb⟩ := hrel
    have hB := Lib.hid hb
    clear hb
    by_cases hlt : k < s.size
    · go_wp2_with (go_at_call 25; refine (notNL_any _ _).mono ?_; rintro e w' ⟨rfl, rfl⟩)
      · have hm : notNL s[k] = true := by assumption
        go_round
        case rel => exact ⟨k + 1, by omega, by go_num, all_snoc hlt hB.out hm⟩
        case measure => simp [intOf]; omega
      · have hm : notNL s[k] = false := by assumption
        go_ret
        exact ⟨show RunsTo notNL s (.returned (.string (s.extract 0 k))) by unfold RunsTo; rw [runN_stop hlt hB.out hm], rfl⟩
    · go_wp2
      go_ret
      have hk2 : k = s.size := by omega
      have hb := hB.out
      rw [hk2] at hb
      exact ⟨show RunsTo notNL s (.returned (.string (s.extract 0 k))) by unfold RunsTo; rw [runN_end hb, hk2], rfl⟩
end Go.Proofs.YtepfgckaapmeoaaDoor
