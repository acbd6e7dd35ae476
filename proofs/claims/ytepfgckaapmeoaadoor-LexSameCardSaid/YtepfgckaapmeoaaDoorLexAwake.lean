/-
  A law's awake: the implementation returns the results that the document gives as examples. Conditions: the package-level variables errors.errorType and name.reserved read as their initialisers laid them.
-/
import Derived.Test.YtepfgckaapmeoaaDoorLexEx
import Derived.Test.YtepfgckaapmeoaaDoorLexTokens
import Derived.Test.YtepfgckaapmeoaaDoorLexJoin
import Derived.Test.YtepfgckaapmeoaaDoorLexSame
import Derived.Test.YtepfgckaapmeoaaDoorLexLine
import Derived.Test.YtepfgckaapmeoaaDoorLexTold
namespace Go.Proofs.YtepfgckaapmeoaaDoor
open Go.RowKit Go.Proofs.YtepfgckaapmeoaaDoorW.PrintWords Go.Proofs.YtepfgckaapmeoaaDoorW.PrintLast Go.Proofs.YtepfgckaapmeoaaDoorW.PrintMore Go.Proofs.YtepfgckaapmeoaaDoor.PRef
set_option linter.unusedVariables false

theorem same_refl (l : List S36) : sameL l l = true := decide_eq_true rfl
theorem below_chain {w a b : World} (h : Below w.heap.size w a) (k : Below a.heap.size a b) : Below w.heap.size w b := h.trans (k.mono h.size)
theorem tok_cells {w : World} {g n : Nat} {l : List S36} (h : Kd.C k36 w (some ⟨g, 0, none⟩) n l) (i : Nat) (hi : i < n) :
    w.cell? ⟨g, i * 3, none⟩ = some (.int .i64 (rd_T36 l (i : Int)).f0) ∧ w.cell? ⟨g, i * 3 + 1, none⟩ = some (.string (rd_T36 l (i : Int)).f1) ∧ w.cell? ⟨g, i * 3 + 2, none⟩ = some (.int .i64 (rd_T36 l (i : Int)).f2) := by
  obtain ⟨ad, e, h0, h1, h2⟩ := at_T36 h (i : Int) (by omega) (by omega)
  cases e
  rw [Int.toNat_natCast, add_plain] at h0 h1 h2
  exact ⟨h0, h1, h2⟩
theorem line_ex_any (w : World) : Calls Tryd.prog 17 #[.string ⟨#[97, 10, 98, 99]⟩, .int .i64 3] w (LinePost w 2 2) := by
  have h := Line_in ⟨#[97, 10, 98, 99]⟩ 3 w (by decide) (by decide)
  rw [line_ex, last_ex] at h
  exact h
set_option maxHeartbeats 4000000 in
set_option maxRecDepth 100000 in
theorem awake_any (w : World) (hE : LaidErr w) (hR : LaidRes w) : Calls Tryd.prog 8 #[] w (BoolPost w true) := by
  have HE := Lib.hid hE
  have HRs := Lib.hid hR
  clear hE hR
  go_enter Tryd.func8, Tryd.ntmps8
  go_wp2_with fail
  refine (Tokens_any _ w 10 ex1 .nil (by decide) HRs.out tok_ex1).mono ?_
  rintro e1 w1 ⟨v1, rfl, hR1, hB1⟩
  have HR1 := Lib.hid hR1
  have HB1 := Lib.hid hB1
  clear hR1 hB1
  obtain ⟨g1, c1, rfl, hg1, _, hc1, hC1⟩ := own_reads0 HR1.out (by decide)
  have HC1 := Lib.hid hC1
  have HCC := Lib.hid hc1
  clear hC1 hc1
  rw [show ex1.length = 4 from rfl, show erW .nil = .nilIface from rfl]
  go_wp2_with fail
  refine (Tokens_any _ w1 10 [] (.fault 5 2) (by decide) (HRs.out.below HB1.out) tok_ex2).mono ?_
  rintro e2 w2 ⟨v2, rfl, hR2, hB2⟩
  obtain ⟨A2, c2, rfl⟩ := Kd.R_slice hR2
  have HB2 := Lib.hid hB2
  clear hR2 hB2
  go_wp2_with fail
  refine (line_ex_any w2).mono ?_
  rintro e3 w3 ⟨rfl, rfl⟩
  have HC2 := Lib.hid (Kd.C_below HC1.out HB2.out)
  obtain ⟨h10, h11, _⟩ := tok_cells HC2.out 1 (by decide)
  obtain ⟨_, _, h22⟩ := tok_cells HC2.out 2 (by decide)
  obtain ⟨h30, _, h32⟩ := tok_cells HC2.out 3 (by decide)
  simp only [show rd_T36 ex1 ((1 : Nat) : Int) = ⟨2, ⟨#[45, 62]⟩, 1⟩ from rfl, show rd_T36 ex1 ((2 : Nat) : Int) = ⟨1, ⟨#[98]⟩, 3⟩ from rfl, show rd_T36 ex1 ((3 : Nat) : Int) = ⟨3, ⟨#[]⟩, 9⟩ from rfl] at h10 h11 h22 h30 h32
  go_wp2_with fail
  refine (told_any (.fault 5 2) 5 2 w2 ((HE.out.below HB1.out).below HB2.out)).mono ?_
  rintro e4 w4 ⟨rfl, hb4⟩
  rw [show toldB (.fault 5 2) 5 2 = true from rfl]
  have HB4 := Lib.hid hb4
  clear hb4
  go_wp2_with fail
  refine (Join_any (some ⟨g1, 0, none⟩) c1 ex1 w4 (Kd.C_below HC2.out HB4.out) HCC.out (by decide) (by rw [join_ex1]; decide)).mono ?_
  rintro e5 w5 ⟨rfl, hb5⟩
  rw [join_ex1]
  have HB5 := Lib.hid hb5
  clear hb5
  go_wp2_with fail
  refine (Same_any (some ⟨g1, 0, none⟩) c1 ex1 (some ⟨g1, 0, none⟩) c1 ex1 w5 (Kd.C_below (Kd.C_below HC2.out HB4.out) HB5.out) (Kd.C_below (Kd.C_below HC2.out HB4.out) HB5.out) (by decide)).mono ?_
  rintro e6 w6 ⟨rfl, hb6⟩
  rw [same_refl]
  have HB6 := Lib.hid hb6
  clear hb6
  go_wp2_with fail
  go_ret
  exact ⟨rfl, below_chain HB1.out (below_chain HB2.out (below_chain HB4.out (below_chain HB5.out HB6.out)))⟩
end Go.Proofs.YtepfgckaapmeoaaDoor
