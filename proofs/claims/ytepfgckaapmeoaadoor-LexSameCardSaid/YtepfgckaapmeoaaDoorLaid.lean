/-
  What the rows' premise on the listed package-level variables gives: the cells of errors.errorType and of name.reserved.
-/
import Derived.Test.YtepfgckaapmeoaaDoorRows
import Derived.Test.YtepfgckaapmeoaaDoorErrAs
import Derived.Test.YtepfgckaapmeoaaDoorName
import Derived.ProofKit
import Derived.LaidMore
import Derived.OpenShut
import Derived.Stop.Joined
import Derived.LaidLaws
import Derived.LaidHandle
namespace Go.Proofs.YtepfgckaapmeoaaDoor
open Go.ChangeShapes Go.WideShapes Go.ChangeAt Go.RowKit

def laid2 : List (String × DataW Unit) := [("errors.errorType", Rows.laid_errors_errorType), ("vestry/name.reserved", Rows.laid_vestry_name_reserved)]
theorem own : ownKnob Tryd.prog.godebug = none := by kernel_rfl
theorem laidOut : laidOutB Tryd.prog = true := by kernel_rfl
theorem gErr : Tryd.prog.globalNamed "errors.errorType" = some 1 := by kernel_rfl
theorem gRes : Tryd.prog.globalNamed "vestry/name.reserved" = some 0 := by kernel_rfl
theorem tRes : (Tryd.prog.globals[0]?).map (·.type) = some 67 := by kernel_rfl
theorem rtRow : (Tryd.prog.cutTypes.find? (·.1 == "internal/reflectlite.rtype")).map (·.2) = some 95 := by kernel_rfl
theorem oneRow : ((List.range 142).filter fun t => Tryd.prog.rowNamed t [101, 114, 114, 111, 114]) = [25] := by kernel_rfl
theorem sizeTypes : Tryd.prog.types.size = 142 := by kernel_rfl
theorem handle_of (W : World) (h : handlesMet Tryd.prog [("errors.errorType", Rows.laid_errors_errorType)] W) : LaidErr W := by
  obtain ⟨name, u, ty, e1, e2, e3, e4, e5⟩ := h _ (List.mem_singleton.2 rfl)
  have en : name = [101, 114, 114, 111, 114] := (Option.some.inj e1).symm
  subst en
  obtain rfl := Option.some.inj (rtRow.symm.trans e2)
  have hm : ty ∈ (List.range 142).filter fun t => Tryd.prog.rowNamed t [101, 114, 114, 111, 114] := List.mem_filter.2 ⟨List.mem_range.2 (by rw [← sizeTypes]; exact e3), e4⟩
  rw [oneRow] at hm
  obtain rfl := List.mem_singleton.1 hm
  have hh : typeHandle Tryd.prog 25 = .pointer (some ⟨3, 25, none⟩) := by kernel_rfl
  rw [hh] at e5
  show W.cell? _ = _
  simpa using World.var?_cell gErr e5 0
theorem three_of {α : Type} : ∀ l : List α, l.length = 3 → ∃ a b c, l = [a, b, c]
  | [a, b, c], _ => ⟨a, b, c, rfl⟩
theorem res_of (W : World) (h : laidMet Tryd.prog [("vestry/name.reserved", Rows.laid_vestry_name_reserved)] W) : LaidRes W := by
  obtain ⟨ps, ⟨g0, t0, cs0, f0, p0, q0, hg0, ht0, hv0, hd0, _, _⟩, _⟩ := h
  obtain rfl := Option.some.inj (gRes.symm.trans hg0)
  obtain rfl := Option.some.inj (tRes.symm.trans ht0)
  obtain ⟨xs, m1, rfl, hx1, hlen, hn3, hel⟩ := DataW.trod_array Tryd.underlying67 hd0
  have c9 : Tryd.prog.cellsOf 9 = 1 := by kernel_rfl
  have c67 : Tryd.prog.cellsOf 67 = 3 := by kernel_rfl
  have h0 := hel 0 (by decide)
  have h1 := hel 1 (by decide)
  have h2 := hel 2 (by decide)
  simp only [c9, Nat.mul_one] at h0 h1 h2
  replace hlen := hlen.trans c67
  obtain ⟨l⟩ := cs0
  simp only at hlen h0 h1 h2
  obtain ⟨a0, a1, a2, rfl⟩ := three_of l hlen
  obtain ⟨x0, x1, x2, rfl⟩ := three_of xs hn3
  obtain ⟨s0, e0, y0, _⟩ := DataW.trod_string Tryd.underlying9 (show DataW.trod _ Tryd.prog W 0 _ false m1 _ [a0] = some x0 from h0)
  obtain ⟨s1, e1, y1, _⟩ := DataW.trod_string Tryd.underlying9 (show DataW.trod _ Tryd.prog W 0 _ false m1 _ [a1] = some x1 from h1)
  obtain ⟨s2, e2, y2, _⟩ := DataW.trod_string Tryd.underlying9 (show DataW.trod _ Tryd.prog W 0 _ false m1 _ [a2] = some x2 from h2)
  cases e0; cases e1; cases e2
  subst y0 y1 y2
  simp only [Rows.laid_vestry_name_reserved, List.map_cons, List.map_nil, Prod.mk.injEq, DataW.agg.injEq, List.cons.injEq, DataW.lit.injEq, Lit.string.injEq] at hx1
  obtain ⟨⟨b0, b1, b2, _⟩, _⟩ := hx1
  have z0 : s0 = ⟨#[100, 101, 102, 105, 110, 105, 116, 105, 111, 110]⟩ := (ba_eq _ _).2 b0.symm
  have z1 : s1 = ⟨#[114, 101, 108, 97, 116, 105, 111, 110]⟩ := (ba_eq _ _).2 b1.symm
  have z2 : s2 = ⟨#[112, 101, 114, 109, 105, 115, 115, 105, 111, 110]⟩ := (ba_eq _ _).2 b2.symm
  subst z0 z1 z2
  intro j hj
  have hc := World.var?_cell hg0 hv0 j
  match j, hj, hc with
  | 0, _, hc =>
    show W.cell? ⟨0, 0, none⟩ = some (.string ⟨#[100, 101, 102, 105, 110, 105, 116, 105, 111, 110]⟩)
    simpa using hc
  | 1, _, hc =>
    show W.cell? ⟨0, 1, none⟩ = some (.string ⟨#[114, 101, 108, 97, 116, 105, 111, 110]⟩)
    simpa using hc
  | 2, _, hc =>
    show W.cell? ⟨0, 2, none⟩ = some (.string ⟨#[112, 101, 114, 109, 105, 115, 115, 105, 111, 110]⟩)
    simpa using hc
theorem of_laid {W : World} (h : laidMetH Tryd.prog laid2 W) : LaidErr W ∧ LaidRes W := by
  have h' : laidMet Tryd.prog [("vestry/name.reserved", Rows.laid_vestry_name_reserved)] W ∧ handlesMet Tryd.prog [("errors.errorType", Rows.laid_errors_errorType)] W := h
  exact ⟨handle_of W h'.2, res_of W h'.1⟩
theorem door_met (os : Os) (args : Array Value) : laidMetH Tryd.prog laid2 ((World.doorLaid Tryd.prog 21 os).forCall (fun _ _ => 0) ⟨#[], args, []⟩).memory :=
  laidMetH_of_parts3 (fuel := 8) (laidMet_of_run' 8 (by kernel_rfl) (by kernel_rfl)) (by kernel_rfl) (by kernel_rfl)
end Go.Proofs.YtepfgckaapmeoaaDoor
