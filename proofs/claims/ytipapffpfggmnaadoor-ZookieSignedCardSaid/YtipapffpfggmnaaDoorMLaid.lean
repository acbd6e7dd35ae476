/-
  What the rows' premise on the listed package-level variables gives: the cells of errors.errorType and of sha.constants. An argument that is a zookie, opened to its numbers. An argument that is a slice of bytes, opened to a row of cells.
-/
import Derived.Test.YtipapffpfggmnaaDoorRows
import Derived.Test.YtipapffpfggmnaaDoorMErr
import Derived.Test.YtipapffpfggmnaaDoorMSha
import Derived.ProofKit
import Derived.LaidMore
import Derived.OpenShut
import Derived.Stop.Joined
import Derived.LaidLaws
import Derived.LaidHandle
import Derived.Test.YtipapffpfggmnaaDoorMZk
import Derived.ChangeArms
import Derived.WideShapes
import Derived.Deep.Slices
import Derived.ShutString
import Derived.Carry
namespace Go.Proofs.YtipapffpfggmnaaDoor
open Go.ChangeShapes Go.WideShapes Go.ChangeAt Go.RowKit Go.Proofs.YtipapffpfggmnaaDoorW.PrintWords
set_option linter.unusedVariables false
def laid2 : List (String × DataW Unit) := [("vestry/sha.constants", Rows.laid_vestry_sha_constants), ("errors.errorType", Rows.laid_errors_errorType)]
theorem own : ownKnob Tryd.prog.godebug = none := by kernel_rfl
theorem laidOut : laidOutB Tryd.prog = true := by kernel_rfl
theorem gErr : Tryd.prog.globalNamed "errors.errorType" = some 0 := by kernel_rfl
theorem gSha : Tryd.prog.globalNamed "vestry/sha.constants" = some 1 := by kernel_rfl
theorem tSha : (Tryd.prog.globals[1]?).map (·.type) = some 125 := by kernel_rfl
theorem rtRow : (Tryd.prog.cutTypes.find? (·.1 == "internal/reflectlite.rtype")).map (·.2) = some 131 := by kernel_rfl
theorem oneRow : ((List.range 170).filter fun t => Tryd.prog.rowNamed t [101, 114, 114, 111, 114]) = [31] := by kernel_rfl
theorem sizeTypes : Tryd.prog.types.size = 170 := by kernel_rfl
theorem handle_of (W : World) (h : handlesMet Tryd.prog [("errors.errorType", Rows.laid_errors_errorType)] W) : LaidErr W := by
  obtain ⟨name, u, ty, e1, e2, e3, e4, e5⟩ := h _ (List.mem_singleton.2 rfl)
  have en : name = [101, 114, 114, 111, 114] := (Option.some.inj e1).symm
  subst en
  obtain rfl := Option.some.inj (rtRow.symm.trans e2)
  have hm : ty ∈ (List.range 170).filter fun t => Tryd.prog.rowNamed t [101, 114, 114, 111, 114] := List.mem_filter.2 ⟨List.mem_range.2 (by rw [← sizeTypes]; exact e3), e4⟩
  rw [oneRow] at hm
  obtain rfl := List.mem_singleton.1 hm
  have hh : typeHandle Tryd.prog 31 = .pointer (some ⟨3, 31, none⟩) := by kernel_rfl
  rw [hh] at e5
  show W.cell? _ = _
  simpa using World.var?_cell gErr e5 0
theorem datSha : (Rows.laid_vestry_sha_constants : DataW Unit) = .agg (KTab.map fun x => .lit (.int .u32 x)) := rfl
theorem sha_of (W : World) (h : laidMet Tryd.prog [("vestry/sha.constants", Rows.laid_vestry_sha_constants)] W) : LaidK W := by
  obtain ⟨ps, ⟨g0, t0, cs0, f0, p0, q0, hg0, ht0, hv0, hd0, _, _⟩, _⟩ := h
  obtain rfl := Option.some.inj (gSha.symm.trans hg0)
  obtain rfl := Option.some.inj (tSha.symm.trans ht0)
  obtain ⟨xs, m1, rfl, hx1, hlen, hn3, hel⟩ := DataW.trod_array Tryd.underlying125 hd0
  have c9 : Tryd.prog.cellsOf 103 = 1 := by kernel_rfl
  rw [datSha] at hx1
  have hx2 : KTab.map (fun x => (DataW.lit (.int .u32 x) : DataW Unit)) = xs.map (·.1) := by
    have := (Prod.mk.inj hx1).1
    injection this
  intro j hj
  have hjx : j < xs.length := by omega
  have hjk : j < KTab.length := hj
  have h0 := hel j hj
  rw [c9, Nat.mul_one, List.getElem?_eq_getElem hjx] at h0
  obtain ⟨n, e0, y0, _⟩ := DataW.trod_int Tryd.underlying103 h0
  have hn : n = rd KTab (j : Int) := by
    have h1 := congrArg (fun l => l[j]?) hx2
    simp only [List.getElem?_map] at h1
    rw [List.getElem?_eq_getElem hjx, List.getElem?_eq_getElem hjk, y0] at h1
    simp only [Option.map_some, Option.some.injEq, DataW.lit.injEq, Lit.int.injEq, true_and] at h1
    unfold rd
    rw [Int.toNat_natCast, List.getD_eq_getElem?_getD, List.getElem?_eq_getElem hjk]
    exact h1.symm
  have hc : cs0.toList[j]? = some (.int .u32 n) := by
    have := congrArg (fun l => l[0]?) e0
    simp only [List.getElem?_cons_zero] at this
    rw [List.getElem?_take, if_pos (by omega), List.getElem?_drop, Nat.add_zero] at this
    exact this
  rw [← hn]
  have h2 := World.var?_cell hg0 hv0 j
  rw [show W.cell? ⟨1, j, none⟩ = _ from h2]
  simpa using hc
theorem of_laid {W : World} (h : laidMetH Tryd.prog laid2 W) : LaidErr W ∧ LaidK W := by
  have h' : laidMet Tryd.prog [("vestry/sha.constants", Rows.laid_vestry_sha_constants)] W ∧ handlesMet Tryd.prog [("errors.errorType", Rows.laid_errors_errorType)] W := h
  exact ⟨handle_of W h'.2, sha_of W h'.1⟩
theorem door_met (os : Os) (args : Array Value) : laidMetH Tryd.prog laid2 ((World.doorLaid Tryd.prog 21 os).forCall (fun _ _ => 0) ⟨#[], args, []⟩).memory :=
  laidMetH_of_parts3 (fuel := 8) (laidMet_of_run' 8 (by kernel_rfl) (by kernel_rfl)) (by kernel_rfl) (by kernel_rfl)
end Go.Proofs.YtipapffpfggmnaaDoor
namespace Go.Proofs.YtipapffpfggmnaaDoor
open Go.RowKit Go.Proofs.YtipapffpfggmnaaDoorW.PrintWords Go.Proofs.YtipapffpfggmnaaDoorW.PrintLast Go.Proofs.YtipapffpfggmnaaDoorW.PrintMore Go.Proofs.YtipapffpfggmnaaDoor.PRef Go.ChangeShapes Go.WideShapes
set_option linter.unusedVariables false
theorem row_nums (k : IntKind) : ∀ m : List Value, (∀ j, j < m.length → ∃ n, (m.drop j).take 1 = [.int k n] ∧ (Lit.int k n).wf = true) → ∃ d : List Int, m = nums k d ∧ ∀ x ∈ d, (Lit.int k x).wf = true
  | [], _ => ⟨[], rfl, fun _ h => by cases h⟩
  | v :: m, h => by
    obtain ⟨n, h0, w0⟩ := h 0 (by simp)
    obtain ⟨d, hd, hw⟩ := row_nums k m fun j hj => h (j + 1) (by simpa using hj)
    have hv : v = .int k n := by simpa using h0
    refine ⟨n :: d, by rw [hd, hv]; rfl, fun x hx => ?_⟩
    rcases List.mem_cons.1 hx with rfl | hx
    · exact w0
    · exact hw x hx
theorem wf_u8 {n : Int} (h : (Lit.int .u8 n).wf = true) : 0 ≤ n ∧ n < 256 := by
  simp [Lit.wf, IntKind.min, IntKind.max, IntKind.bits, IntKind.signed] at h; omega
theorem wf_u64 {n : Int} (h : (Lit.int .u64 n).wf = true) : 0 ≤ n ∧ n < 18446744073709551616 := by
  simp [Lit.wf, IntKind.min, IntKind.max, IntKind.bits, IntKind.signed] at h; omega
theorem zk_size : Tryd.prog.cellsOf 26 = 34 := by kernel_rfl
set_option maxRecDepth 100000 in
theorem open_zk {H : Type} {enc : TypeId × Value → H} {W : World} {base : Nat} {v : Value} {d : DataW H} {p : List MemPlace} (hv : Value.okWide Tryd.prog W .any base 26 v)
    (h : DataW.Trod enc Tryd.prog W 0 (fun _ => true) true 26 v d p) :
    ∃ (a r : Int) (z : List Int), v = .agg (zkC a r z) ∧ z.length = 32 ∧ Bytes z ∧ (0 ≤ a ∧ a < 256) ∧ (0 ≤ r ∧ r < 18446744073709551616) := by
  obtain ⟨cs, rfl, hsz⟩ := okWide_struct Tryd.underlying26 hv
  rw [zk_size] at hsz
  obtain ⟨fuel, hf⟩ := h
  obtain ⟨xs, m, rfl, hx, hl, hxl, hfs⟩ := DataW.trod_struct Tryd.underlying26 hf
  have hxl3 : xs.length = 3 := hxl
  have hcs : (Value.agg cs).cells = cs := rfl
  rw [hcs] at hfs
  obtain ⟨l⟩ := cs
  have hl2 : l.length = 34 := hsz
  simp only at hfs
  have c5 : Tryd.prog.cellsOf 5 = 1 := by kernel_rfl
  have c23 : Tryd.prog.cellsOf 23 = 1 := by kernel_rfl
  have c24 : Tryd.prog.cellsOf 24 = 32 := by kernel_rfl
  have h0 : DataW.trod enc Tryd.prog W 0 (fun _ => true) true m 5 ((l.drop 0).take (Tryd.prog.cellsOf 5)) = xs[0]? := hfs 0 _ rfl
  have h1 : DataW.trod enc Tryd.prog W 0 (fun _ => true) true m 23 ((l.drop 1).take (Tryd.prog.cellsOf 23)) = xs[1]? := hfs 1 _ rfl
  have h2 : DataW.trod enc Tryd.prog W 0 (fun _ => true) true m 24 ((l.drop 2).take (Tryd.prog.cellsOf 24)) = xs[2]? := hfs 2 _ rfl
  rw [c5, List.getElem?_eq_getElem (by omega)] at h0
  rw [c23, List.getElem?_eq_getElem (by omega)] at h1
  rw [c24, List.getElem?_eq_getElem (by omega)] at h2
  obtain ⟨a, e0, _, w0⟩ := DataW.trod_int Tryd.underlying5 h0
  obtain ⟨r, e1, _, w1⟩ := DataW.trod_int Tryd.underlying23 h1
  obtain ⟨ys, m1, rfl, _, hyl, hyn, hel⟩ := DataW.trod_array Tryd.underlying24 h2
  rw [c24] at hyl
  have ht : (l.drop 2).take 32 = l.drop 2 := List.take_of_length_le (by rw [List.length_drop]; omega)
  rw [ht] at hel hyl
  obtain ⟨z, hz, hw⟩ := row_nums .u8 (l.drop 2) fun j hj => by
    have hj2 : j < 32 := by omega
    have h3 := hel j hj2
    rw [c5, Nat.mul_one, List.getElem?_eq_getElem (by omega)] at h3
    obtain ⟨n, e3, _, w3⟩ := DataW.trod_int Tryd.underlying5 h3
    exact ⟨n, e3, w3⟩
  have hll : l = .int .u8 a :: .int .u64 r :: nums .u8 z := by
    rcases l with _ | ⟨x, _ | ⟨y, l⟩⟩
    · simp at hl2
    · simp at hl2
    · simp at e0 e1 hz
      rw [e0, e1, hz]
  refine ⟨a, r, z, by rw [hll]; rfl, ?_, fun x hx => wf_u8 (hw x hx), wf_u8 w0, wf_u64 w1⟩
  have := congrArg List.length hz
  rw [nums_length] at this
  omega
end Go.Proofs.YtipapffpfggmnaaDoor
namespace Go.Proofs.YtipapffpfggmnaaDoor
open Go.RowKit Go.Proofs.YtipapffpfggmnaaDoorW.PrintWords Go.Proofs.YtipapffpfggmnaaDoorW.PrintLast Go.Proofs.YtipapffpfggmnaaDoorW.PrintMore Go.Proofs.YtipapffpfggmnaaDoor.PRef Go.ChangeShapes Go.WideShapes Go.Deep
set_option linter.unusedVariables false
theorem open_bytes {H : Type} {enc : TypeId × Value → H} {W : World} {a : Option Addr} {len cap : Nat} {d : DataW H} {p : List MemPlace}
    (h : DataW.Trod enc Tryd.prog W 0 (fun _ => true) true 22 (.slice a len cap) d p) :
    ∃ xs : List Int, xs.length = len ∧ len ≤ cap ∧ Kd.C (Kd.int .u8) W a len xs ∧ Bytes xs ∧ len ≤ 9223372036854775807 := by
  obtain ⟨fuel, hf⟩ := h
  rcases open_slice1 Tryd.underlying22 (by kernel_rfl) hf with ⟨hcs, hx⟩ | ⟨b, l, c, m, n, V, D, Pl, hcs, hb, hl, hm, hmm, hx, hi⟩
  · simp [Value.cells] at hcs
    obtain ⟨rfl, rfl, rfl⟩ := hcs
    exact ⟨[], rfl, Nat.le_refl _, ⟨rfl, by omega, fun h => by omega⟩, fun t h => (by cases h), by omega⟩
  · simp [Value.cells] at hcs
    obtain ⟨rfl, rfl, rfl⟩ := hcs
    simp only [if_true] at hmm
    subst hmm
    have one : ∀ i, i < len → ∃ z : Int, W.cell? (b.add i) = some (.int .u8 z) ∧ (0 ≤ z ∧ z < 256) := fun i hil => by
      obtain ⟨hc, ht⟩ := hi i (by omega)
      obtain ⟨z, hz, _, hw⟩ := DataW.trod_int Tryd.underlying5 ht
      injection hz with hz
      exact ⟨z, by rw [hc, hz], wf_u8 hw⟩
    obtain ⟨Z, hZ⟩ := choose_lt one
    have hmx : len ≤ 9223372036854775807 := Nat.le_trans hl (Nat.le_trans hm (by decide))
    refine ⟨(List.range len).map Z, by simp, hl, ⟨by simp, hmx, fun _ => ⟨b, rfl, fun j q hj => ?_⟩⟩, fun t ht2 => ?_, hmx⟩
    · obtain ⟨hjl, hq⟩ := List.getElem?_eq_some_iff.1 hj
      simp at hjl hq
      subst hq
      refine ⟨[.int .u8 (Z j)], rfl, rfl, fun i u hi => ?_⟩
      have hi0 : i = 0 := by
        have := (List.getElem?_eq_some_iff.1 hi).1
        simp at this; exact this
      subst hi0
      have hu : u = .int .u8 (Z j) := by simpa using hi.symm
      subst hu
      rw [show j * (Kd.int IntKind.u8).sz + 0 = j by show j * 1 + 0 = j; omega]
      exact (hZ j hjl).1
    · obtain ⟨i, hi2, rfl⟩ := List.mem_map.1 ht2
      exact (hZ i (List.mem_range.1 hi2)).2
end Go.Proofs.YtipapffpfggmnaaDoor
