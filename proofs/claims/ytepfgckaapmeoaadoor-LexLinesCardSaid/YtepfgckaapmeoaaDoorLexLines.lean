/-
  The law LexLines, walked: it returns true. Conditions: the package-level variables errors.errorType and name.reserved read as their initialisers laid them.
-/
import Derived.Test.YtepfgckaapmeoaaDoorLexAwake
import Derived.Test.YtepfgckaapmeoaaDoorLexRefA
namespace Go.Proofs.YtepfgckaapmeoaaDoor
open Go.RowKit Go.Proofs.YtepfgckaapmeoaaDoorW.PrintWords Go.Proofs.YtepfgckaapmeoaaDoorW.PrintLast Go.Proofs.YtepfgckaapmeoaaDoorW.PrintMore Go.Proofs.YtepfgckaapmeoaaDoor.PRef
set_option linter.unusedVariables false

set_option maxHeartbeats 4000000 in
set_option maxRecDepth 100000 in
theorem LexLines_any (s : ByteArray) (m : Int) (w : World) (hs : s.size ≤ 140737488351232) (hE : LaidErr w) (hR : LaidRes w) : Calls Tryd.prog 6 #[.string s, .int .i64 m] w (BoolPost w true) := by
  have HE := Lib.hid hE
  have HRs := Lib.hid hR
  clear hE hR
  by_cases hbig : 2000 < s.size
  · have hb2 : (2000 : Int) < s.size := by omega
    go_enter Tryd.func6, Tryd.ntmps6
    go_wp2_with fail
    refine (awake_any w HE.out HRs.out).mono ?_
    rintro e1 w1 ⟨rfl, hb1⟩
    have HB1 := Lib.hid hb1
    clear hb1
    go_wp2_with fail
    refine (awake_any w1 (HE.out.below HB1.out) (HRs.out.below HB1.out)).mono ?_
    rintro e2 w2 ⟨rfl, hb2⟩
    have HB2 := Lib.hid hb2
    clear hb2
    go_wp2_with fail
    go_ret
    exact ⟨rfl, below_chain HB1.out HB2.out⟩
  · have hb2 : ¬ (2000 : Int) < s.size := by omega
    obtain ⟨l, c, k, hl, hc⟩ : ∃ (l c : Int) (k : Nat), (∀ W, Calls Tryd.prog 17 #[.string s, .int .i64 m] W (LinePost W l c)) ∧ vestryref09_Line.f k s m = some (l, c) := by
      by_cases hin : 0 ≤ m ∧ m ≤ s.size
      · obtain ⟨n, rfl⟩ := Int.eq_ofNat_of_zero_le hin.1
        exact ⟨_, _, _, fun W => Line_in s n W hs (by omega), refLine_in s n (by omega) (by omega)⟩
      · exact ⟨_, _, _, fun W => Line_out s m W (by omega), refLine_out s m (by omega)⟩
    have HL := Lib.hid hl
    have HC := Lib.hid hc
    clear hl hc
    go_enter Tryd.func6, Tryd.ntmps6
    go_wp2_with fail
    refine (awake_any w HE.out HRs.out).mono ?_
    rintro e1 w1 ⟨rfl, hb1⟩
    have HB1 := Lib.hid hb1
    clear hb1
    go_wp2_with fail
    refine (HL.out w1).mono ?_
    rintro e2 w2 ⟨rfl, rfl⟩
    go_wp2_with fail
    refine (vestryref09_Line.calls k s m l c w1 HC.out).mono ?_
    rintro e3 w3 ⟨rfl, ⟨n3, rfl⟩⟩
    go_wp2_with fail
    go_ret
    exact ⟨rfl, pw_below_drewN HB1.out _⟩
end Go.Proofs.YtepfgckaapmeoaaDoor
