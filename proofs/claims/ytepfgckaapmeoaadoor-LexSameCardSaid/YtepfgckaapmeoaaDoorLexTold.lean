/-
  The contract of a law's told: whether an error has a code and an offset.
-/
import Derived.Test.YtepfgckaapmeoaaDoorErrAs
import Derived.Test.YtepfgckaapmeoaaDoorName
import Derived.Outline
namespace Go.Proofs.YtepfgckaapmeoaaDoor
open Go.RowKit
set_option linter.unusedVariables false

/-- Does an error have a code and an offset? (0: it is none.) -/
def toldB (er : Er) (c a : Int) : Bool := if c = 0 then !er.ok else er.ok && (decide (er.c = c) && (er.isAt && decide (er.a = a)))
structure BoolPost (w : World) (b : Bool) (e : Ending) (w' : World) : Prop where
  out : e = .returned (.bool b) ∧ Below w.heap.size w w'
theorem er_nil_eq (er : Er) : erW er = .nilIface ↔ er.ok = false := by cases er <;> simp [erW, Er.ok]

set_option maxHeartbeats 2000000 in
theorem told_any (er : Er) (c a : Int) (w : World) (hL : LaidErr w) :
    Calls Tryd.prog 11 #[erW er, .int .i64 c, .int .i64 a] w (BoolPost w (toldB er c a)) := by
  by_cases hc : c = 0
  · have hc1 : (c == 0) = true := by rw [hc]; rfl
    have HC := Lib.hid hc
    clear hc
    cases er with
    | nil =>
      show Calls Tryd.prog 11 #[.nilIface, .int .i64 c, .int .i64 a] w (BoolPost w (toldB .nil c a))
      go_enter Tryd.func11, Tryd.ntmps11
      go_wp2_with fail
      go_ret
      exact ⟨ret_bool (by rw [toldB, if_pos HC.out]; rfl), Below.refl _ _⟩
    | code c1 =>
      show Calls Tryd.prog 11 #[.iface 47 (.int .i64 c1), .int .i64 c, .int .i64 a] w (BoolPost w (toldB (.code c1) c a))
      go_enter Tryd.func11, Tryd.ntmps11
      go_wp2_with fail
      go_ret
      exact ⟨ret_bool (by rw [toldB, if_pos HC.out]; rfl), Below.refl _ _⟩
    | fault c1 a1 =>
      show Calls Tryd.prog 11 #[.iface 64 (.agg #[.int .i64 c1, .int .i64 a1]), .int .i64 c, .int .i64 a] w (BoolPost w (toldB (.fault c1 a1) c a))
      go_enter Tryd.func11, Tryd.ntmps11
      go_wp2_with fail
      go_ret
      exact ⟨ret_bool (by rw [toldB, if_pos HC.out]; rfl), Below.refl _ _⟩
  · have hc1 : (c == 0) = false := by simpa using hc
    have HC := Lib.hid hc
    clear hc
    go_enter Tryd.func11, Tryd.ntmps11
    go_wp2_with fail
    refine (fault_Code er _ hL).mono ?_
    rintro e1 w1 ⟨rfl, hb1⟩
    have HB1 := Lib.hid hb1
    have hL1 := hL.below hb1
    clear hb1
    go_wp2_with fail
    refine (fault_At er _ hL1).mono ?_
    rintro e2 w2 ⟨rfl, hb2⟩
    have HB2 := Lib.hid hb2
    clear hb2 hL1
    have hbf : Below w.heap.size w w2 := HB1.out.trans (HB2.out.mono HB1.out.size)
    have HBF := Lib.hid hbf
    clear hbf hL
    go_wp2_with fail
    all_goals go_ret
    all_goals refine ⟨ret_bool ?_, HBF.out⟩
    all_goals rw [toldB, if_neg HC.out]
    all_goals rw [Bool.eq_iff_iff]
    all_goals simp [*]
end Go.Proofs.YtepfgckaapmeoaaDoor
