/-
  The contract of package lex's Line: the line and the column of an offset.
-/
import Derived.Test.YtepfgckaapmeoaaDoorName
import Derived.Lib.LastIndexByte
import Derived.Outline
namespace Go.Proofs.YtepfgckaapmeoaaDoor
open Go.RowKit
set_option linter.unusedVariables false

theorem lineN_ex (s : ByteArray) (k : Nat) : ∃ n : Nat, n = Lib.countByte (s.extract 0 k).data.toList 10 := ⟨_, rfl⟩
/-- How many line feeds lie in front of an offset. -/
noncomputable def lineN (s : ByteArray) (k : Nat) : Nat := (lineN_ex s k).choose
theorem lineN_def (s : ByteArray) (k : Nat) : lineN s k = Lib.countByte (s.extract 0 k).data.toList 10 := (lineN_ex s k).choose_spec
theorem lastN_ex (s : ByteArray) (k : Nat) : ∃ n : Int, n = Lib.lastIndexByte (s.extract 0 k) 10 := ⟨_, rfl⟩
/-- Where the last line feed in front of an offset is, or -1. -/
noncomputable def lastN (s : ByteArray) (k : Nat) : Int := (lastN_ex s k).choose
theorem lastN_def (s : ByteArray) (k : Nat) : lastN s k = Lib.lastIndexByte (s.extract 0 k) 10 := (lastN_ex s k).choose_spec
theorem ext_size0 (s : ByteArray) (k : Nat) (h : k ≤ s.size) : (s.extract 0 k).size = k := by simp; omega
theorem lineN_le (s : ByteArray) (k : Nat) (h : k ≤ s.size) : lineN s k ≤ k := by
  rw [lineN_def]
  unfold Lib.countByte
  have h1 := List.count_le_length (a := (10 : UInt8)) (l := (s.extract 0 k).data.toList)
  have h2 : (s.extract 0 k).data.toList.length = (s.extract 0 k).size := Array.length_toList
  rw [h2, ext_size0 s k h] at h1
  exact h1
theorem lastN_bd (s : ByteArray) (k : Nat) (h : k ≤ s.size) : -1 ≤ lastN s k ∧ lastN s k < k := by
  rw [lastN_def]
  have h0 := ext_size0 s k h
  rcases Lib.lastIndexByte_spec (s.extract 0 k) 10 with ⟨e, _⟩ | ⟨i, hi, e, _⟩
  · rw [e]; omega
  · rw [e]; omega
structure LinePost (w : World) (l c : Int) (e : Ending) (w' : World) : Prop where
  out : e = .returned (.tuple #[.int .i64 l, .int .i64 c]) ∧ w = w'
theorem Count_ (s : ByteArray) (c : UInt8) (w : World) : Calls Tryd.prog 36 #[.string s, .string ⟨#[c]⟩] w fun e w' => e = .returned (.int .i64 (Lib.countByte s.data.toList c)) ∧ w = w' :=
  (Tryd.strings_Count_one s c w).mono fun _ _ ⟨h1, h2⟩ => ⟨h1, h2.symm⟩
theorem LastIndexByte_ (s : ByteArray) (c : Int) (hs : s.size < 4611686018427387904) (w : World) : Calls Tryd.prog 37 #[.string s, .int .u8 c] w fun e w' => e = .returned (.int .i64 (Lib.lastIndexByte s c)) ∧ w = w' :=
  (Tryd.strings_LastIndexByte s c hs w).mono fun _ _ ⟨h1, h2⟩ => ⟨h1, h2.symm⟩

set_option maxHeartbeats 2000000 in
theorem Line_in (s : ByteArray) (k : Nat) (w : World) (hs : s.size ≤ 140737488351232) (hk : k ≤ s.size) :
    Calls Tryd.prog 17 #[.string s, .int .i64 (k : Int)] w (LinePost w (lineN s k + 1) (k - lastN s k)) := by
  have hb := lastN_bd s k hk
  have hl := lineN_le s k hk
  have hk2 : (k : Int) ≤ s.size := by omega
  have hk3 : ¬ ((s.size : Int) < k) := by omega
  go_enter Tryd.func17, Tryd.ntmps17
  go_wp2_with fail
  refine (Count_ _ 10 _).mono ?_
  rintro e1 w1 ⟨hr, rfl⟩
  have hr2 : e1 = .returned (.int .i64 (lineN s k)) := by rw [lineN_def]; exact hr
  clear hr
  subst hr2
  go_wp2_with fail
  refine (LastIndexByte_ _ 10 (by rw [ext_size0 s k hk]; omega) _).mono ?_
  rintro e2 w2 ⟨hr, rfl⟩
  have hr2 : e2 = .returned (.int .i64 (lastN s k)) := by rw [lastN_def]; exact hr
  clear hr
  subst hr2
  go_wp2_with fail
  go_ret2
  exact ⟨rfl, rfl⟩
set_option maxHeartbeats 2000000 in
theorem Line_out (s : ByteArray) (k : Int) (w : World) (hk : k < 0 ∨ (s.size : Int) < k) :
    Calls Tryd.prog 17 #[.string s, .int .i64 k] w (LinePost w 0 0) := by
  by_cases h : k < 0
  · clear hk
    go_enter Tryd.func17, Tryd.ntmps17
    go_wp2_with fail
    go_ret2
    exact ⟨rfl, rfl⟩
  · have h2 : (s.size : Int) < k := by omega
    clear hk
    go_enter Tryd.func17, Tryd.ntmps17
    go_wp2_with fail
    go_ret2
    exact ⟨rfl, rfl⟩
end Go.Proofs.YtepfgckaapmeoaaDoor
