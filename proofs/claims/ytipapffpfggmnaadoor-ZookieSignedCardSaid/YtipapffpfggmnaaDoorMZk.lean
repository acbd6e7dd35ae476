/-
  Package zookie: check; the shape of a zookie. fault.Shift of a code; package zookie's failing results. A zookie that is built of its parts. Package zookie's Parse. Package wire's numbers: what is written is read. mac.Equal and vestryref01.Same: whether two lists of bytes are the same. wire.Join; package zookie's Payload. Package zookie's Mint.
-/
import Derived.Test.YtipapffpfggmnaaDoorMWire
import Derived.Test.YtipapffpfggmnaaDoorMMac
import Derived.Deep.MidRow
import Derived.Test.YtipapffpfggmnaaDoorPRefx3
import Derived.Test.YtipapffpfggmnaaDoorPRefx4
import Derived.Test.YtipapffpfggmnaaDoorPRefx1
import Derived.Deep.RegionHeld3
namespace Go.Proofs.YtipapffpfggmnaaDoor
open Go.RowKit Go.Proofs.YtipapffpfggmnaaDoorW.PrintWords Go.Proofs.YtipapffpfggmnaaDoorW.PrintLast Go.Proofs.YtipapffpfggmnaaDoorW.PrintMore Go.Proofs.YtipapffpfggmnaaDoor.PRef
set_option linter.unusedVariables false
/-- A zookie's cells: version, revision, digest. -/
def zkC (v r : Int) (d : List Int) : Array Value := (.int .u8 v :: .int .u64 r :: nums .u8 d).toArray
theorem zkC_size (v r : Int) (d : List Int) : (zkC v r d).size = d.length + 2 := by unfold zkC; rw [List.size_toArray, List.length_cons, List.length_cons, nums_length]
/-- The code of the error of a zookie (0: none). -/
def chkF (v r : Int) : Int := if v ≠ 1 then 13 else if r > 9223372036854775807 then 15 else 0
theorem zk_cell0 {w : World} {n : Nat} {v r : Int} {d : List Int} {t : TypeId} (h : w.heap[n]? = some (.cells (zkC v r d) t (0, 0))) : w.cell? ⟨n, 0, none⟩ = some (.int .u8 v) := by rw [blk_cell h 0]; rfl
theorem zk_cell1 {w : World} {n : Nat} {v r : Int} {d : List Int} {t : TypeId} (h : w.heap[n]? = some (.cells (zkC v r d) t (0, 0))) : w.cell? ⟨n, 1, none⟩ = some (.int .u64 r) := by rw [blk_cell h 1]; rfl
theorem zk_cell2 {w : World} {n : Nat} {v r : Int} {d : List Int} {t : TypeId} (h : w.heap[n]? = some (.cells (zkC v r d) t (0, 0))) (i : Nat) (hi : i < d.length) : w.cell? ⟨n, 2 + i, none⟩ = some (.int .u8 (rd d i)) := by
  rw [blk_cell h (2 + i)]
  unfold zkC rd nums
  rw [List.getElem?_toArray, Nat.add_comm 2 i, List.getElem?_cons_succ, List.getElem?_cons_succ, List.getElem?_map, Int.toNat_natCast, List.getElem?_eq_getElem hi, List.getD_eq_getElem?_getD, List.getElem?_eq_getElem hi]
  rfl
set_option maxHeartbeats 8000000 in
set_option maxRecDepth 100000 in
theorem check_zk (v r : Int) (d : List Int) (w : World) :
    Calls Tryd.prog 22 #[.agg (zkC v r d)] w fun e w' => e = .returned (erW (codeEr (chkF v r))) ∧ Below w.heap.size w w' := by
  have h0 := heap_alloc_last w (.cells (zkC v r d) 26)
  have q0 := zk_cell0 h0
  have q1 := zk_cell1 h0
  have HB := Lib.hid (below_alloc (Below.refl w.heap.size w) (.cells (zkC v r d) 26))
  clear h0
  generalize zkC v r d = Z at *
  by_cases hv : v = 1
  · subst hv
    by_cases hr : r > 9223372036854775807
    · have he : chkF 1 r = 15 := by unfold chkF; rw [if_neg (by simp), if_pos hr]
      have HE := Lib.hid he
      clear he
      go_enter Tryd.func22, Tryd.ntmps22
      go_wp2_with fail
      go_ret
      rw [HE.out]
      exact ⟨rfl, HB.out⟩
    · have he : chkF 1 r = 0 := by unfold chkF; rw [if_neg (by simp), if_neg hr]
      have HE := Lib.hid he
      clear he
      go_enter Tryd.func22, Tryd.ntmps22
      go_wp2_with fail
      go_ret
      rw [HE.out]
      exact ⟨rfl, HB.out⟩
  · have he : chkF v r = 13 := by unfold chkF; rw [if_pos hv]
    have HE := Lib.hid he
    clear he
    go_enter Tryd.func22, Tryd.ntmps22
    go_wp2_with fail
    go_ret
    rw [HE.out]
    exact ⟨rfl, HB.out⟩
end Go.Proofs.YtipapffpfggmnaaDoor
namespace Go.Proofs.YtipapffpfggmnaaDoor
open Go.RowKit Go.Proofs.YtipapffpfggmnaaDoorW.PrintWords Go.Proofs.YtipapffpfggmnaaDoorW.PrintLast Go.Proofs.YtipapffpfggmnaaDoorW.PrintMore Go.Proofs.YtipapffpfggmnaaDoor.PRef
set_option linter.unusedVariables false
theorem results_cell_tmp {P : Program} {fn : Func} {p q : Tmp} {ty : TypeId} (h : fn.results = #[.cell p ty, .tmp q]) (tmps : Array Value) (w : World) (g : Nat) (t : TypeId) (cs : Array Value) (fr : Nat × Nat) (d : TypeDesc)
    (hp : tmps.getD p undef = .pointer (some ⟨g, 0, none⟩)) (hg : w.heap[g]? = some (.cells cs t fr))
    (hu : P.underlying ty = some d) (hd : (match d with | .struct _ | .array _ _ => true | _ => false) = true) (hi : (P.info? ty).map (·.size) = some cs.size) :
    (results fn tmps).run P w = .ok (.tuple #[.agg cs, tmps.getD q undef]) w := by
  have hp' : tmps[p]?.getD undef = .pointer (some ⟨g, 0, none⟩) := by simpa using hp
  simp [results, h, hp', asAddr, run_loadVar_row w g t ty cs fr d hg hu hd hi]
def zd0 : List Int := List.replicate 32 0
/-- The zero zookie. -/
def zk0 : Array Value := zkC 0 0 zd0
theorem zz26 : (Tryd.prog.info? 26).map (·.zero) = some (some (.agg zk0)) := by kernel_rfl
theorem iz26 (v r : Int) (d : List Int) (hd : d.length = 32) : (Tryd.prog.info? 26).map (·.size) = some (zkC v r d).size := by
  rw [zkC_size, hd]; kernel_rfl
theorem oneCell_zk (v r : Int) (d : List Int) : (zkC v r d).all (·.oneCell') = true := by
  unfold zkC
  rw [List.all_toArray, List.all_cons, List.all_cons]
  have := oneCell_nums .u8 d
  rw [List.all_toArray] at this
  rw [this]; rfl
set_option maxHeartbeats 8000000 in
set_option maxRecDepth 100000 in
theorem Shift_code (c n : Int) (w : World) (hg : LaidErr w) (h0 : 0 ≤ n) (h1 : n ≤ 100000000) :
    Calls Tryd.prog 29 #[erW (.code c), .int .i64 n] w fun e w' => e = .returned (erW (.fault c n)) ∧ Below w.heap.size w w' := by
  have HG := Lib.hid hg
  clear hg
  go_enter Tryd.func29, Tryd.ntmps29
  go_wp2_with fail
  refine (fault_Code (.code c) w HG.out).mono ?_
  rintro e1 w1 ⟨rfl, hb1⟩
  have HB1 := Lib.hid hb1
  have HG1 := Lib.hid (HG.out.below hb1)
  clear hb1
  go_wp2_with fail
  refine (fault_At (.code c) w1 HG1.out).mono ?_
  rintro e2 w2 ⟨rfl, hb2⟩
  have HB2 := Lib.hid (HB1.out.trans (hb2.mono HB1.out.size))
  clear hb2
  go_wp2_with fail
  have e : wrap64 ((Er.code c).a + n) = n := by show wrap64 (0 + n) = n; unfold wrap64; omega
  rw [e]
  refine (fault_New c n w2).mono ?_
  rintro e3 w3 ⟨rfl, rfl⟩
  go_wp2_with fail
  go_ret
  exact ⟨rfl, HB2.out⟩
set_option maxHeartbeats 8000000 in
set_option maxRecDepth 100000 in
theorem Fail_any (c n : Int) (w : World) (hg : LaidErr w) (h0 : 0 ≤ n) (h1 : n ≤ 100000000) :
    Calls Tryd.prog 28 #[erW (.code c), .int .i64 n] w fun e w' => e = .returned (.tuple #[.agg zk0, erW (.fault c n)]) ∧ Below w.heap.size w w' := by
  have HG := Lib.hid hg
  clear hg
  go_enter Tryd.func28, Tryd.ntmps28
  go_wp2_with (first | ((with_reducible refine gate_dst (N := 4) rfl ?_); refine wpList_alloc_row rfl 26 rfl _ zz26 ?_; intro w0 hr0 hb0 hs0; have HR0 := Lib.hid hr0; have HB0 := Lib.hid hb0; clear hr0 hb0 hs0))
  refine (Shift_code c n w0 (HG.out.below HB0.out) h0 h1).mono ?_
  rintro e1 w1 ⟨rfl, hb1⟩
  have hlt := blk_lt HR0.out
  have HR1 := Lib.hid (blk_below HR0.out hb1)
  have HB1 := Lib.hid (HB0.out.trans (hb1.mono HB0.out.size))
  clear hb1
  go_wp2_with ((with_reducible refine gate_store (t := 26) (p := 4) rfl ?_); (refine wpList_store_row rfl 26 _ _ rfl _ zk0 rfl rfl 26 _ HR1.out (iz26 0 0 zd0 rfl) rfl (oneCell_zk 0 0 zd0) ?_))
  refine bodyPost_ret (v := .tuple #[.agg zk0, erW (.fault c n)]) (results_cell_tmp Tryd.results28 _ _ _ _ _ (0, 0) _ rfl (setRow_heap _ _ _ _ _ _ HR1.out) Tryd.underlying26 rfl (iz26 0 0 zd0 rfl)) rfl ⟨rfl, below_setRow HB1.out (Nat.le_refl _) _⟩
end Go.Proofs.YtipapffpfggmnaaDoor
namespace Go.Proofs.YtipapffpfggmnaaDoor
open Go.RowKit Go.Proofs.YtipapffpfggmnaaDoorW.PrintWords Go.Proofs.YtipapffpfggmnaaDoorW.PrintLast Go.Proofs.YtipapffpfggmnaaDoorW.PrintMore Go.Proofs.YtipapffpfggmnaaDoor.PRef
set_option linter.unusedVariables false
theorem build_zk1 (x : Int) : ∀ (D : List Int), D.length = 32 → ∀ W : World, (Instr.build 26 #[(0, .int .u8 1), (1, .int .u64 x), (2, .agg (nums .u8 D).toArray)]).run Tryd.prog W = .ok (.agg (zkC 1 x D)) W
  | [a0, a1, a2, a3, a4, a5, a6, a7, a8, a9, a10, a11, a12, a13, a14, a15, a16, a17, a18, a19, a20, a21, a22, a23, a24, a25, a26, a27, a28, a29, a30, a31], _, W => by kernel_rfl
theorem wpList_build_zk {ops : Array Oper} {rest : List Oper} {o : Oper} {a : Act} {w : World} {Q : Exit → Act → World → Prop} (hg : o.guard = none) (p q : Operand) (ho : o.op = .build 26 #[(0, .const (.int .u8 1)), (1, p), (2, q)])
    (x : Int) (D : List Int) (hp : a.eval p = .int .u64 x) (hq : a.eval q = .agg (nums .u8 D).toArray) (hD : D.length = 32) (h : wpList Tryd.prog ops Q rest (a.put o.dst (.agg (zkC 1 x D))) w) : wpList Tryd.prog ops Q (o :: rest) a w := by
  refine wpList_plain hg fun K hK => ?_
  unfold Oper.wp execOp
  have hr := build_zk1 x D hD w
  have e : a.eval (.const (.int .u8 1)) = .int .u8 1 := rfl
  simp only [ho, List.map_toArray, List.map_cons, List.map_nil, e, hp, hq, Sem.run_bind, hr, Result.andThen_ok, Sem.run_pure]
  exact hK _ _ h
end Go.Proofs.YtipapffpfggmnaaDoor
namespace Go.Proofs.YtipapffpfggmnaaDoor
open Go.RowKit Go.Proofs.YtipapffpfggmnaaDoorW.PrintWords Go.Proofs.YtipapffpfggmnaaDoorW.PrintLast Go.Proofs.YtipapffpfggmnaaDoorW.PrintMore Go.Proofs.YtipapffpfggmnaaDoor.PRef
set_option linter.unusedVariables false
/-- What both Parses compute. -/
def parseF (b : List Int) : Array Value × Er :=
  if b.length = 0 then (zk0, .fault 1 0)
  else if rd b 0 ≠ 1 then (zk0, .fault 13 0)
  else if (numR (b.drop 1)).2.2 ≠ 0 then (zk0, .fault (numR (b.drop 1)).2.2 1)
  else if (numR (b.drop 1)).1 > 9223372036854775807 then (zk0, .fault 15 1)
  else if b.length < 1 + (numR (b.drop 1)).2.1 + 32 then (zk0, .fault 1 ((1 + (numR (b.drop 1)).2.1 : Nat) : Int))
  else if 1 + (numR (b.drop 1)).2.1 + 32 < b.length then (zk0, .fault 16 ((1 + (numR (b.drop 1)).2.1 + 32 : Nat) : Int))
  else (zkC 1 (numR (b.drop 1)).1 (b.drop (1 + (numR (b.drop 1)).2.1)), .nil)
def PPost (r : Array Value × Er) (w : World) (e : Ending) (w' : World) : Prop := e = .returned (.tuple #[.agg r.1, erW r.2]) ∧ Below w.heap.size w w'
theorem pp_of {r r' : Array Value × Er} {w : World} {e : Ending} {w' : World} (h : PPost r w e w') (he : r = r') : PPost r' w e w' := he ▸ h
theorem C_range {w : World} {g : Nat} {l : List Int} (h : Kd.C (Kd.int .u8) w (some ⟨g, 0, none⟩) 32 l) (hl : l.length = 32) : w.rangeAt g 0 (nums .u8 l) := by
  intro j v hv
  unfold nums at hv
  rw [List.getElem?_map] at hv
  obtain ⟨x, hx, rfl⟩ := Option.map_eq_some_iff.1 hv
  have hj := (List.getElem?_eq_some_iff.1 hx).1
  rw [← hl] at h
  obtain ⟨ad, ha, q⟩ := Kd.at_int h (j : Int) (by omega) (by omega)
  have ha := Option.some.inj ha
  subst ha
  rw [Int.toNat_natCast, add_plain] at q
  rw [Nat.zero_add, q]
  unfold rd
  rw [Int.toNat_natCast, List.getD_eq_getElem?_getD, hx]; rfl
theorem arr_at (g c : Nat) (W : World) : (Instr.arrayAt 24 (.slice (some ⟨g, 0, none⟩) 32 c)).run Tryd.prog W = .ok (.pointer (some ⟨g, 0, none⟩)) W := by
  simp [Instr.arrayAt, run_underlying Tryd.underlying24]
theorem code_ne (c : Int) (h : c ≠ 0) : codeEr c = .code c := if_neg h
theorem erc (c : Int) : erW (.code c) = .iface 35 (.int .i64 c) := rfl
theorem ern : erW .nil = .nilIface := rfl
theorem code_eq : codeEr 0 = .nil := rfl
set_option maxHeartbeats 8000000 in
set_option maxRecDepth 100000 in
theorem Parse_any (A : Option Addr) (c : Nat) (b : List Int) (w : World) (hC : Kd.C (Kd.int .u8) w A b.length b) (hl : b.length ≤ 1000000) (hb : Bytes b) (hg : LaidErr w) :
    Calls Tryd.prog 12 #[.slice A b.length c] w (PPost (parseF b) w) := by
  have HC := Lib.hid hC
  have HG := Lib.hid hg
  clear hC hg
  go_enter Tryd.func12, Tryd.ntmps12
  go_wp2_with (first | ((with_reducible refine gate_dst (N := 2) rfl ?_); refine wpList_alloc_row rfl 26 rfl _ zz26 ?_; intro w0 hr0 hb0 hs0; have HR0 := Lib.hid hr0; have HB0 := Lib.hid hb0; clear hr0 hb0 hs0))
  have hwl := blk_lt HR0.out
  refine (New_any A c b w0 (Kd.C_below HC.out HB0.out) (by omega)).mono ?_
  rintro e1 w1 ⟨p, A1, c1, rfl, hcur, hp1, hb1⟩
  have HR1 := Lib.hid (blk_below HR0.out hb1)
  have HB1 := Lib.hid (HB0.out.trans (hb1.mono HB0.out.size))
  have HG1 := Lib.hid (HG.out.below HB1.out)
  have HCU := Lib.hid hcur
  have hpw : w.heap.size + 1 ≤ p := by omega
  have hs1 := hb1.size
  clear hcur hb1
  by_cases h0 : b.length = 0
  · -- nothing
    have HF := Lib.hid (show parseF b = (zk0, .fault 1 0) from if_pos h0)
    go_wp2_with fail
    refine (Take_short 1 HCU.out (by omega) (by omega)).mono ?_
    rintro e2 w2 ⟨rfl, hd2⟩
    have HR2 := Lib.hid (blk_below HR1.out hd2.below)
    have HB2 := Lib.hid (HB1.out.trans (hd2.below.mono HB1.out.size))
    have HG2 := Lib.hid (HG1.out.below hd2.below)
    clear hd2
    rw [erc]
    go_wp2_with fail
    refine (Fail_any 1 0 w2 HG2.out (by omega) (by omega)).mono ?_
    rintro e9 w9 ⟨rfl, hb9⟩
    have HR9 := Lib.hid (blk_below HR2.out hb9)
    have HB9 := Lib.hid (HB2.out.trans (hb9.mono HB2.out.size))
    clear hb9
    go_wp2_with ((with_reducible refine gate_store (t := 26) (p := 2) rfl ?_); (refine wpList_store_row rfl 26 _ _ rfl _ zk0 rfl rfl 26 _ HR9.out (iz26 0 0 zd0 rfl) rfl (oneCell_zk 0 0 zd0) ?_))
    rw [HF.out]
    refine bodyPost_ret (v := .tuple #[.agg zk0, erW (.fault 1 0)]) (results_cell_tmp Tryd.results12 _ _ _ _ _ (0, 0) _ rfl (setRow_heap _ _ _ _ _ _ HR9.out) Tryd.underlying26 rfl (iz26 0 0 zd0 rfl)) rfl ⟨rfl, below_setRow HB9.out (Nat.le_refl _) _⟩
  · have hne : b.length ≠ 0 := h0
    go_wp2_with fail
    refine (Take_any 1 (w.heap.size + 1) HCU.out (by omega) hpw (by omega)).mono ?_
    rintro e2 w2 ⟨v2, rfl, hR2, hcur2, hb2⟩
    have HR2 := Lib.hid ((hb2.block _ (by omega)).trans HR1.out)
    have HB2 := Lib.hid (HB1.out.trans (hb2.mono (by omega)))
    have hs2 := hb2.size
    have HG2 := Lib.hid (HG.out.below HB2.out)
    have HCU2 := Lib.hid hcur2
    obtain ⟨A2, c2, rfl, hc2, hC2⟩ := Kd.R_reads hR2
    have hl2 : ((b.drop 0).take 1).length = 1 := by rw [List.length_take, List.length_drop]; omega
    have hrd2 : rd ((b.drop 0).take 1) 0 = rd b 0 := by
      rcases b with _ | ⟨x, b⟩
      · exact absurd rfl hne
      · rfl
    obtain ⟨ad2, rfl, q2⟩ := Kd.at_int hC2 0 (by omega) (by rw [hl2]; omega)
    rw [hl2] at hC2 hc2 ⊢
    rw [hrd2] at q2
    obtain ⟨g2, rfl⟩ := Kd.R_head hR2
    have q2' : w2.cell? ⟨g2, 0, none⟩ = some (.int .u8 (rd b 0)) := q2
    obtain ⟨N, hN⟩ : ∃ N, N = numR (b.drop 1) := ⟨_, rfl⟩
    have HPF := Lib.hid (show parseF b = _ from by unfold parseF; rw [← hN])
    clear q2 hrd2 hC2 hR2 hcur2 hb2
    by_cases h1 : rd b 0 = 1
    · rw [h1] at q2'
      have hnum := Number_any (w.heap.size + 1) HCU2.out hpw (by omega) hb
      rw [show numR (List.drop (0 + 1) b) = N from hN.symm] at hnum
      have HNUM := Lib.hid hnum
      clear hnum hN
      go_wp2_with fail
      refine HNUM.out.mono ?_
      rintro e3 w3 ⟨rfl, hcur3, hb3⟩
      have HR3 := Lib.hid ((hb3.block _ (by omega)).trans HR2.out)
      have HB3 := Lib.hid (HB2.out.trans (hb3.mono (by omega)))
      have hs3 := hb3.size
      have HG3 := Lib.hid (HG.out.below HB3.out)
      have HCU3 := Lib.hid hcur3
      have hk3 := hcur3.hk
      clear hcur3 hb3 HNUM q2'
      obtain ⟨x, k, cd⟩ := N
      simp only at hk3 ⊢
      by_cases h2 : cd = 0
      · subst h2
        rw [code_eq, ern]
        by_cases h3 : x > 9223372036854775807
        · have HF := Lib.hid (HPF.out.trans ((if_neg h0).trans ((if_neg (fun h => h h1)).trans ((if_neg (fun h => h rfl)).trans (if_pos h3)))))
          go_wp2_with fail
          refine (Fail_any 15 1 w3 HG3.out (by omega) (by omega)).mono ?_
          rintro e9 w9 ⟨rfl, hb9⟩
          have HR9 := Lib.hid (blk_below HR3.out hb9)
          have HB9 := Lib.hid (HB3.out.trans (hb9.mono HB3.out.size))
          clear hb9
          go_wp2_with ((with_reducible refine gate_store (t := 26) (p := 2) rfl ?_); (refine wpList_store_row rfl 26 _ _ rfl _ zk0 rfl rfl 26 _ HR9.out (iz26 0 0 zd0 rfl) rfl (oneCell_zk 0 0 zd0) ?_))
          rw [HF.out]
          refine bodyPost_ret (v := .tuple #[.agg zk0, erW (.fault 15 1)]) (results_cell_tmp Tryd.results12 _ _ _ _ _ (0, 0) _ rfl (setRow_heap _ _ _ _ _ _ HR9.out) Tryd.underlying26 rfl (iz26 0 0 zd0 rfl)) rfl ⟨rfl, below_setRow HB9.out (Nat.le_refl _) _⟩
        · go_wp2_with fail
          refine (At_any HCU3.out).mono ?_
          rintro e4 w4 ⟨rfl, hw4⟩
          subst hw4
          go_wp2_with fail
          by_cases h4 : b.length < 1 + k + 32
          · have HF := Lib.hid (HPF.out.trans ((if_neg h0).trans ((if_neg (fun h => h h1)).trans ((if_neg (fun h => h rfl)).trans ((if_neg (by omega : ¬ x > 9223372036854775807)).trans (if_pos h4))))))
            refine (Take_short 32 HCU3.out (by omega) (by omega)).mono ?_
            rintro e5 w5 ⟨rfl, hd5⟩
            have HR5 := Lib.hid (blk_below HR3.out hd5.below)
            have HB5 := Lib.hid (HB3.out.trans (hd5.below.mono HB3.out.size))
            have HG5 := Lib.hid (HG3.out.below hd5.below)
            clear hd5
            rw [erc]
            go_wp2_with fail
            refine (Fail_any 1 ((0 + 1 + k : Nat) : Int) w5 HG5.out (by omega) (by omega)).mono ?_
            rintro e9 w9 ⟨rfl, hb9⟩
            have HR9 := Lib.hid (blk_below HR5.out hb9)
            have HB9 := Lib.hid (HB5.out.trans (hb9.mono HB5.out.size))
            clear hb9
            go_wp2_with ((with_reducible refine gate_store (t := 26) (p := 2) rfl ?_); (refine wpList_store_row rfl 26 _ _ rfl _ zk0 rfl rfl 26 _ HR9.out (iz26 0 0 zd0 rfl) rfl (oneCell_zk 0 0 zd0) ?_))
            rw [HF.out]
            refine bodyPost_ret (v := .tuple #[.agg zk0, erW (.fault 1 ((0 + 1 + k : Nat) : Int))]) (results_cell_tmp Tryd.results12 _ _ _ _ _ (0, 0) _ rfl (setRow_heap _ _ _ _ _ _ HR9.out) Tryd.underlying26 rfl (iz26 0 0 zd0 rfl)) rfl ⟨rfl, below_setRow HB9.out (Nat.le_refl _) _⟩
          · refine (Take_any 32 (w.heap.size + 1) HCU3.out (by omega) hpw (by omega)).mono ?_
            rintro e5 w5 ⟨v5, rfl, hR5, hcur5, hb5⟩
            have HR5 := Lib.hid ((hb5.block _ (by omega)).trans HR3.out)
            have HB5 := Lib.hid (HB3.out.trans (hb5.mono (by omega)))
            have hs5 := hb5.size
            have HG5 := Lib.hid (HG.out.below HB5.out)
            have HCU5 := Lib.hid hcur5
            obtain ⟨A5, c5, rfl, hc5, hC5⟩ := Kd.R_reads hR5
            have hl5 : ((b.drop (0 + 1 + k)).take 32).length = 32 := by rw [List.length_take, List.length_drop]; omega
            rw [hl5] at hC5 hc5 hR5 ⊢
            have HC5 := Lib.hid hC5
            have HRR5 := Lib.hid hR5
            clear hR5 hC5 hcur5 hb5
            go_wp2_with fail
            refine (End_any HCU5.out).mono ?_
            rintro e6 w6 ⟨rfl, hd6⟩
            have HR6 := Lib.hid (blk_below HR5.out hd6.below)
            have HB6 := Lib.hid (HB5.out.trans (hd6.below.mono HB5.out.size))
            have HG6 := Lib.hid (HG5.out.below hd6.below)
            have HCU6 := Lib.hid (HCU5.out.drawn hd6)
            have HC6 := Lib.hid (Kd.C_below HC5.out hd6.below)
            clear hd6
            by_cases h5 : 1 + k + 32 < b.length
            · have HF := Lib.hid (HPF.out.trans ((if_neg h0).trans ((if_neg (fun h => h h1)).trans ((if_neg (fun h => h rfl)).trans ((if_neg (by omega : ¬ x > 9223372036854775807)).trans ((if_neg h4).trans (if_pos h5)))))))
              rw [show endEr (0 + 1 + k + 32) b.length = .code 16 from if_pos (by omega), erc]
              go_wp2_with fail
              refine (At_any HCU6.out).mono ?_
              rintro e7 w7 ⟨rfl, hw7⟩
              subst hw7
              go_wp2_with fail
              refine (Fail_any 16 ((0 + 1 + k + 32 : Nat) : Int) w7 HG6.out (by omega) (by omega)).mono ?_
              rintro e9 w9 ⟨rfl, hb9⟩
              have HR9 := Lib.hid (blk_below HR6.out hb9)
              have HB9 := Lib.hid (HB6.out.trans (hb9.mono HB6.out.size))
              clear hb9
              go_wp2_with ((with_reducible refine gate_store (t := 26) (p := 2) rfl ?_); (refine wpList_store_row rfl 26 _ _ rfl _ zk0 rfl rfl 26 _ HR9.out (iz26 0 0 zd0 rfl) rfl (oneCell_zk 0 0 zd0) ?_))
              rw [HF.out]
              refine bodyPost_ret (v := .tuple #[.agg zk0, erW (.fault 16 ((0 + 1 + k + 32 : Nat) : Int))]) (results_cell_tmp Tryd.results12 _ _ _ _ _ (0, 0) _ rfl (setRow_heap _ _ _ _ _ _ HR9.out) Tryd.underlying26 rfl (iz26 0 0 zd0 rfl)) rfl ⟨rfl, below_setRow HB9.out (Nat.le_refl _) _⟩
            · have HF := Lib.hid (HPF.out.trans ((if_neg h0).trans ((if_neg (fun h => h h1)).trans ((if_neg (fun h => h rfl)).trans ((if_neg (by omega : ¬ x > 9223372036854775807)).trans ((if_neg h4).trans (if_neg h5)))))))
              rw [show endEr (0 + 1 + k + 32) b.length = .nil from if_neg (by omega), ern]
              obtain ⟨ad5, hA5, -⟩ := HC6.out.2.2 (by omega)
              subst hA5
              obtain ⟨g5, rfl⟩ := Kd.R_head HRR5.out
              have hat : ∀ W, (Instr.arrayAt 24 (.slice (some ⟨g5, 0, none⟩) 32 c5)).run Tryd.prog W = .ok (.pointer (some ⟨g5, 0, none⟩)) W := arr_at g5 c5
              have HRG := Lib.hid (C_range HC6.out hl5)
              have hD : (b.drop (0 + 1 + k)).take 32 = b.drop (1 + k) := by rw [show 0 + 1 + k = 1 + k from by omega]; exact List.take_of_length_le (by rw [List.length_drop]; omega)
              have HDD := Lib.hid hD
              have hi24 := Lib.hid (show (Tryd.prog.info? 24).map (·.size) = some (nums .u8 ((b.drop (0 + 1 + k)).take 32)).length from by rw [nums_length, hl5]; exact i32b)
              clear hD
              obtain ⟨D, hDe⟩ : ∃ D, D = (b.drop (0 + 1 + k)).take 32 := ⟨_, rfl⟩
              rw [← hDe] at HRG HDD hi24 hl5
              have HL5 := Lib.hid hl5
              have HDE := Lib.hid hDe
              clear hl5 hDe
              go_wp2_with (first | ((with_reducible refine gate_dst (N := 87) rfl ?_); (refine wpList_load_mid rfl 24 _ rfl g5 0 rfl (nums .u8 D) _ HRG.out Tryd.underlying24 rfl hi24.out ?_)) | ((with_reducible refine gate_dst (N := 88) rfl ?_); (refine wpList_build_zk rfl _ _ rfl x D rfl rfl HL5.out ?_)) | ((with_reducible refine gate_store (t := 26) (p := 2) rfl ?_); (refine wpList_store_row rfl 26 _ _ rfl _ (zkC 1 x D) rfl rfl 26 _ HR6.out (iz26 1 x D HL5.out) (by rw [zkC_size, HL5.out]; rfl) (oneCell_zk 1 x D) ?_)))
              rw [HF.out]
              refine bodyPost_ret (v := .tuple #[.agg (zkC 1 x D), erW .nil]) (results_cell_tmp Tryd.results12 _ _ _ _ _ (0, 0) _ rfl (setRow_heap _ _ _ _ _ _ HR6.out) Tryd.underlying26 rfl (iz26 1 x D HL5.out)) rfl ⟨by rw [HDD.out], below_setRow HB6.out (Nat.le_refl _) _⟩
      · have HF := Lib.hid (HPF.out.trans ((if_neg h0).trans ((if_neg (fun h => h h1)).trans (if_pos h2))))
        rw [code_ne cd h2, erc]
        go_wp2_with fail
        refine (Fail_any cd 1 w3 HG3.out (by omega) (by omega)).mono ?_
        rintro e9 w9 ⟨rfl, hb9⟩
        have HR9 := Lib.hid (blk_below HR3.out hb9)
        have HB9 := Lib.hid (HB3.out.trans (hb9.mono HB3.out.size))
        clear hb9
        go_wp2_with ((with_reducible refine gate_store (t := 26) (p := 2) rfl ?_); (refine wpList_store_row rfl 26 _ _ rfl _ zk0 rfl rfl 26 _ HR9.out (iz26 0 0 zd0 rfl) rfl (oneCell_zk 0 0 zd0) ?_))
        rw [HF.out]
        refine bodyPost_ret (v := .tuple #[.agg zk0, erW (.fault cd 1)]) (results_cell_tmp Tryd.results12 _ _ _ _ _ (0, 0) _ rfl (setRow_heap _ _ _ _ _ _ HR9.out) Tryd.underlying26 rfl (iz26 0 0 zd0 rfl)) rfl ⟨rfl, below_setRow HB9.out (Nat.le_refl _) _⟩
    · have HF := Lib.hid (HPF.out.trans ((if_neg h0).trans (if_pos h1)))
      go_wp2_with fail
      refine (Fail_any 13 0 w2 HG2.out (by omega) (by omega)).mono ?_
      rintro e9 w9 ⟨rfl, hb9⟩
      have HR9 := Lib.hid (blk_below HR2.out hb9)
      have HB9 := Lib.hid (HB2.out.trans (hb9.mono HB2.out.size))
      clear hb9
      go_wp2_with ((with_reducible refine gate_store (t := 26) (p := 2) rfl ?_); (refine wpList_store_row rfl 26 _ _ rfl _ zk0 rfl rfl 26 _ HR9.out (iz26 0 0 zd0 rfl) rfl (oneCell_zk 0 0 zd0) ?_))
      rw [HF.out]
      refine bodyPost_ret (v := .tuple #[.agg zk0, erW (.fault 13 0)]) (results_cell_tmp Tryd.results12 _ _ _ _ _ (0, 0) _ rfl (setRow_heap _ _ _ _ _ _ HR9.out) Tryd.underlying26 rfl (iz26 0 0 zd0 rfl)) rfl ⟨rfl, below_setRow HB9.out (Nat.le_refl _) _⟩
end Go.Proofs.YtipapffpfggmnaaDoor
namespace Go.Proofs.YtipapffpfggmnaaDoor
open Go.RowKit Go.Proofs.YtipapffpfggmnaaDoorW.PrintWords Go.Proofs.YtipapffpfggmnaaDoorW.PrintLast Go.Proofs.YtipapffpfggmnaaDoorW.PrintMore Go.Proofs.YtipapffpfggmnaaDoor.PRef
set_option linter.unusedVariables false
def putN : Nat → Nat → List Int
  | 0, _ => []
  | f + 1, y => if y < 128 then [(y : Int)] else ((y % 128 + 128 : Nat) : Int) :: putN f (y / 128)
/-- The bytes of a number. -/
def putF (y : Nat) : List Int := putN 10 y
theorem putN_bytes : ∀ (f y : Nat), Bytes (putN f y)
  | 0, _ => fun x h => by cases h
  | f + 1, y => fun x h => by
    unfold putN at h
    split at h
    · rw [List.mem_singleton.1 h]; omega
    · rcases List.mem_cons.1 h with rfl | h
      · omega
      · exact putN_bytes f _ x h
theorem putN_len : ∀ (f y : Nat), (putN f y).length ≤ f
  | 0, _ => Nat.le_refl _
  | f + 1, y => by
    unfold putN
    split
    · simp
    · rw [List.length_cons]; have := putN_len f (y / 128); omega
theorem rd_at {l : List Int} {i : Nat} {x : Int} {r : List Int} (h : l.drop i = x :: r) : rd l (i : Int) = x ∧ i < l.length ∧ l.drop (i + 1) = r := by
  have h1 : i < l.length := by
    rcases Nat.lt_or_ge i l.length with h' | h'
    · exact h'
    · rw [List.drop_eq_nil_of_le h'] at h; cases h
  rw [List.drop_eq_getElem_cons h1] at h
  injection h with h2 h3
  refine ⟨?_, h1, h3⟩
  unfold rd
  rw [Int.toNat_natCast, List.getD_eq_getElem?_getD, List.getElem?_eq_getElem h1]
  exact h2
theorem num_put : ∀ (f i y : Nat) (x : Int) (L rest : List Int), f + i = 10 → y < 2 ^ (64 - 7 * i) → (0 < i → 0 < y) → L.drop i = putN f y ++ rest → numF f L i x = (x + (y : Int) * 2 ^ (7 * i), i + (putN f y).length, 0)
  | 0, i, y, x, L, rest, hf, hy, hp, hL => by
    have : i = 10 := by omega
    subst this
    have := hp (by omega)
    simp at hy
    omega
  | f + 1, i, y, x, L, rest, hf, hy, hp, hL => by
    unfold putN at hL ⊢
    unfold numF
    by_cases h : y < 128
    · rw [if_pos h] at hL ⊢
      obtain ⟨h1, h2, -⟩ := rd_at (show L.drop i = (y : Int) :: rest from hL)
      rw [h1, if_neg (by omega), if_neg, if_neg, if_pos (by omega), show ((y : Int) % 128) = y from by omega]
      · rfl
      · rintro ⟨h3, h4⟩; have := hp h3; omega
      · rintro ⟨h3, h4⟩
        subst h3
        simp at hy
        omega
    · rw [if_neg h] at hL ⊢
      obtain ⟨h1, h2, h3⟩ := rd_at (show L.drop i = ((y % 128 + 128 : Nat) : Int) :: (putN f (y / 128) ++ rest) from hL)
      have hi : i ≤ 8 := by
        rcases Nat.lt_or_ge i 9 with h' | h'
        · omega
        · have : i = 9 := by omega
          subst this
          simp at hy
          omega
      have hy2 : y / 128 < 2 ^ (64 - 7 * (i + 1)) := by
        have e : 2 ^ (64 - 7 * i) = 2 ^ (64 - 7 * (i + 1)) * 128 := by rw [show 64 - 7 * i = (64 - 7 * (i + 1)) + 7 from by omega, Nat.pow_add]
        rw [e] at hy
        exact Nat.div_lt_of_lt_mul (by rw [Nat.mul_comm]; exact hy)
      rw [h1, if_neg (by omega), if_neg (by omega), if_neg (by omega), if_neg (by omega), num_put f (i + 1) (y / 128) _ L rest (by omega) hy2 (fun _ => by omega) h3]
      have e2 : (2 : Int) ^ (7 * (i + 1)) = 128 * 2 ^ (7 * i) := by rw [show 7 * (i + 1) = 7 * i + 7 from by omega, Int.pow_add, Int.mul_comm]; rfl
      have e3 : ((y % 128 + 128 : Nat) : Int) % 128 = ((y % 128 : Nat) : Int) := by omega
      have e4 : (y : Int) = ((y % 128 : Nat) : Int) + ((y / 128 : Nat) : Int) * 128 := by omega
      rw [e2, e3]
      refine Prod.ext ?_ (Prod.ext ?_ rfl)
      · show x + _ + _ = x + (y : Int) * _
        rw [e4, Int.add_mul, Int.mul_assoc, Int.add_assoc]
      · show i + 1 + _ = i + (_ :: _).length
        rw [List.length_cons]; omega
theorem numR_put (y : Nat) (rest : List Int) (hy : y < 2 ^ 64) : numR (putF y ++ rest) = ((y : Int), (putF y).length, 0) := by
  have := num_put 10 0 y 0 (putF y ++ rest) rest rfl (by simpa using hy) (by omega) rfl
  unfold numR
  rw [this, Int.zero_add, Nat.zero_add, Nat.mul_zero, Int.pow_zero, Int.mul_one]; rfl
set_option maxRecDepth 100000 in
theorem or128 : ∀ g : Fin 256, Go.bits .or .u8 ((g.val : Nat) : Int) 128 = ((g.val % 128 + 128 : Nat) : Int) := by decide
theorem put_l0 : ∀ (f y : Nat) (acc : List Int), 0 < f → y < 128 ^ f → acc.length + f ≤ 1000 → wire_Put.l0 f (y : Int) acc = some (acc ++ putN f y)
  | 0, y, acc, h0, hy, hl => absurd h0 (by omega)
  | f + 1, y, acc, h0, hy, hl => by
    unfold putN
    rw [wire_Put.l0]
    by_cases h : y < 128
    · rw [if_neg (by omega), if_pos (by omega), if_pos h, show ((y : Int) % 256) = y from by omega]
    · rw [if_pos (by omega), if_pos (by omega), if_neg h, show ((y : Int) / 128) = ((y / 128 : Nat) : Int) from by omega, put_l0 f (y / 128) _ (by rcases f with _ | f <;> first | omega | (simp at hy; omega)) (Nat.div_lt_of_lt_mul (by rw [Nat.pow_succ, Nat.mul_comm] at hy; exact hy)) (by rw [List.length_append, List.length_singleton]; omega)]
      have := or128 ⟨y % 256, Nat.mod_lt _ (by decide)⟩
      rw [show ((y : Int) % 256) = ((y % 256 : Nat) : Int) from by omega, this, List.append_assoc, show y % 256 % 128 = y % 128 from by omega]; rfl
theorem put_any (y : Nat) (hy : y < 2 ^ 64) (w : World) : Calls Tryd.prog 24 #[.int .u64 (y : Int)] w fun e w' => ∃ v, e = .returned v ∧ Kd.R (Kd.int .u8) 5 w' w.heap.size (fun _ => True) v (putF y) ∧ Below w.heap.size w w' := by
  have := put_l0 10 y [] (by omega) (Nat.lt_of_lt_of_le hy (by decide)) (by simp)
  exact wire_Put.calls 10 (y : Int) (putF y) w this
end Go.Proofs.YtipapffpfggmnaaDoor
namespace Go.Proofs.YtipapffpfggmnaaDoor
open Go.RowKit Go.Proofs.YtipapffpfggmnaaDoorW.PrintWords Go.Proofs.YtipapffpfggmnaaDoorW.PrintLast Go.Proofs.YtipapffpfggmnaaDoorW.PrintMore Go.Proofs.YtipapffpfggmnaaDoor.PRef
set_option linter.unusedVariables false
theorem xor_nat (a b : Nat) (ha : a < 256) (hb : b < 256) : bits .xor .u8 (a : Int) (b : Int) = ((a ^^^ b : Nat) : Int) := by
  have hp : IntKind.u8.bits = 8 := rfl
  have ha' : a % 2 ^ IntKind.u8.bits = a := Nat.mod_eq_of_lt (by rw [hp]; exact ha)
  have hb' : b % 2 ^ IntKind.u8.bits = b := Nat.mod_eq_of_lt (by rw [hp]; exact hb)
  have hx : a ^^^ b < 2 ^ 8 := Nat.xor_lt_two_pow ha hb
  simp only [bits, BitVec.ofInt_natCast, BitVec.toNat_xor, BitVec.toNat_ofNat, ha', hb']
  exact wraps_u8 _ (by omega) (by omega)
/-- One byte more. -/
theorem eq_step (d x y : Int) (hd : 0 ≤ d ∧ d < 256) (hx : 0 ≤ x ∧ x < 256) (hy : 0 ≤ y ∧ y < 256) :
    (0 ≤ bits .or .u8 d (bits .xor .u8 x y) ∧ bits .or .u8 d (bits .xor .u8 x y) < 256) ∧ (bits .or .u8 d (bits .xor .u8 x y) = 0 ↔ d = 0 ∧ x = y) := by
  obtain ⟨a, rfl⟩ := Int.eq_ofNat_of_zero_le hx.1
  obtain ⟨b, rfl⟩ := Int.eq_ofNat_of_zero_le hy.1
  obtain ⟨c, rfl⟩ := Int.eq_ofNat_of_zero_le hd.1
  have ha : a < 256 := by omega
  have hb : b < 256 := by omega
  have hc : c < 256 := by omega
  have hq : a ^^^ b < 256 := Nat.xor_lt_two_pow (n := 8) ha hb
  rw [xor_nat a b ha hb, (bits_nat .u8 8 (by decide) wraps_u8 c (a ^^^ b) hc hq).2]
  have h1 : c ||| (a ^^^ b) < 2 ^ 8 := Nat.or_lt_two_pow hc hq
  refine ⟨⟨by omega, by omega⟩, ?_⟩
  constructor
  · intro h
    have h0 : c ||| (a ^^^ b) = 0 := by omega
    rw [Nat.or_eq_zero_iff] at h0
    obtain ⟨h2, h3⟩ := h0
    refine ⟨by omega, ?_⟩
    have : a ^^^ (a ^^^ b) = a := by rw [h3]; simp
    rw [← Nat.xor_assoc, Nat.xor_self, Nat.zero_xor] at this
    omega
  · rintro ⟨h2, h3⟩
    have h4 : c = 0 := by omega
    have h5 : a = b := by omega
    subst h4 h5
    simp
theorem drop_ext {a b : List Int} (j : Nat) (ha : j < a.length) (hb : j < b.length) (h : rd a (j : Int) = rd b (j : Int)) (h2 : a.drop (j + 1) = b.drop (j + 1)) : a.drop j = b.drop j := by
  unfold rd at h
  rw [Int.toNat_natCast, List.getD_eq_getElem?_getD, List.getD_eq_getElem?_getD, List.getElem?_eq_getElem ha, List.getElem?_eq_getElem hb] at h
  rw [List.drop_eq_getElem_cons ha, List.drop_eq_getElem_cons hb, h2]
  congr 1
theorem drop_ext' {a b : List Int} (j : Nat) (ha : j < a.length) (hb : j < b.length) (h : a.drop j = b.drop j) : rd a (j : Int) = rd b (j : Int) ∧ a.drop (j + 1) = b.drop (j + 1) := by
  rw [List.drop_eq_getElem_cons ha, List.drop_eq_getElem_cons hb] at h
  injection h with h1 h2
  refine ⟨?_, h2⟩
  unfold rd
  rw [Int.toNat_natCast, List.getD_eq_getElem?_getD, List.getD_eq_getElem?_getD, List.getElem?_eq_getElem ha, List.getElem?_eq_getElem hb]
  exact h1
theorem equal_l0 (a b : List Int) (hl : a.length = b.length) (h32 : a.length ≤ 100000000) (ha : Bytes a) (hb : Bytes b) : ∀ (m j : Nat) (d : Int), j + m = a.length → 0 ≤ d ∧ d < 256 → mac_Equal.l0 (m + 1) a b d (a.length : Int) (j : Int) = some (decide (d = 0 ∧ a.drop j = b.drop j))
  | 0, j, d, hj, hd => by
    rw [mac_Equal.l0, if_neg (by omega), List.drop_eq_nil_of_le (by omega), List.drop_eq_nil_of_le (by omega)]
    congr 1
    rcases Decidable.em (d = 0) with h | h <;> simp [h]
  | m + 1, j, d, hj, hd => by
    have h1 : j < a.length := by omega
    have h2 : j < b.length := by omega
    obtain ⟨hr, hz⟩ := eq_step d (rd a (j : Int)) (rd b (j : Int)) hd (rd_byte ha h1) (rd_byte hb h2)
    have c1 : -1000000000000 ≤ (j : Int) + 1 ∧ (j : Int) + 1 ≤ 1000000000000 := by omega
    rw [mac_Equal.l0, if_pos (by omega), if_pos (by omega), if_pos (by omega), if_pos (by omega), w64 c1.1 c1.2, show (j : Int) + 1 = ((j + 1 : Nat) : Int) from by omega]
    rw [equal_l0 a b hl h32 ha hb m (j + 1) _ (by omega) hr]
    congr 1
    rw [decide_eq_decide, hz]
    constructor
    · rintro ⟨⟨h3, h4⟩, h5⟩
      exact ⟨h3, drop_ext j h1 h2 h4 h5⟩
    · rintro ⟨h3, h4⟩
      obtain ⟨h5, h6⟩ := drop_ext' j h1 h2 h4
      exact ⟨⟨h3, h5⟩, h6⟩
theorem equal_f (a b : List Int) (h32 : a.length ≤ 100000000) (ha : Bytes a) (hb : Bytes b) : ∃ k, mac_Equal.f k a b = some (decide (a = b)) := by
  by_cases hl : a.length = b.length
  · refine ⟨a.length + 1, ?_⟩
    unfold mac_Equal.f
    rw [if_pos (by omega), show (0 : Int) = ((0 : Nat) : Int) from rfl, equal_l0 a b hl h32 ha hb a.length 0 _ (by omega) (by omega)]
    simp
  · refine ⟨0, ?_⟩
    unfold mac_Equal.f
    rw [if_neg (by omega), decide_eq_false]
    intro h; exact hl (by rw [h])
theorem same_l0 (a b : List Int) (hl : a.length = b.length) (h32 : a.length ≤ 100000000) : ∀ (m j : Nat), j + m = a.length → vestryref01_Same.l0 (m + 1) a b (j : Int) = some (decide (a.drop j = b.drop j))
  | 0, j, hj => by
    rw [vestryref01_Same.l0, if_neg (by omega), List.drop_eq_nil_of_le (by omega), List.drop_eq_nil_of_le (by omega)]
    simp
  | m + 1, j, hj => by
    have h1 : j < a.length := by omega
    have h2 : j < b.length := by omega
    have c1 : -1000000000000 ≤ (j : Int) + 1 ∧ (j : Int) + 1 ≤ 1000000000000 := by omega
    rw [vestryref01_Same.l0, if_pos (by omega), if_pos (by omega), if_pos (by omega), w64 c1.1 c1.2, show (j : Int) + 1 = ((j + 1 : Nat) : Int) from by omega]
    by_cases h : rd a (j : Int) = rd b (j : Int)
    · rw [if_pos h, same_l0 a b hl h32 m (j + 1) (by omega)]
      congr 1
      rw [decide_eq_decide]
      exact ⟨drop_ext j h1 h2 h, fun h3 => (drop_ext' j h1 h2 h3).2⟩
    · rw [if_neg h, decide_eq_false]
      intro h3; exact h (drop_ext' j h1 h2 h3).1
theorem same_f (a b : List Int) (h32 : a.length ≤ 100000000) : ∃ k, vestryref01_Same.f k a b = some (decide (a = b)) := by
  by_cases hl : a.length = b.length
  · refine ⟨a.length + 1, ?_⟩
    unfold vestryref01_Same.f
    rw [if_pos (by omega), show (0 : Int) = ((0 : Nat) : Int) from rfl, same_l0 a b hl h32 a.length 0 (by omega)]
    simp
  · refine ⟨0, ?_⟩
    unfold vestryref01_Same.f
    rw [if_neg (by omega), decide_eq_false]
    intro h; exact hl (by rw [h])
end Go.Proofs.YtipapffpfggmnaaDoor
namespace Go.Proofs.YtipapffpfggmnaaDoor
open Go.RowKit Go.Proofs.YtipapffpfggmnaaDoorW.PrintWords Go.Proofs.YtipapffpfggmnaaDoorW.PrintLast Go.Proofs.YtipapffpfggmnaaDoorW.PrintMore Go.Proofs.YtipapffpfggmnaaDoor.PRef
set_option linter.unusedVariables false
theorem C_lit3 {e : Nat} {w : World} {g : Nat} {t : TypeId} {A B D : Option Addr} {c b d : Nat} {l m k : List Int} (h : w.heap[g]? = some (.cells #[.slice A l.length c, .slice B m.length b, .slice D k.length d] t (0, 0))) (hc : l.length ≤ c) (hC : Kd.C (Kd.int .u8) w A l.length l) (hb : m.length ≤ b) (hB : Kd.C (Kd.int .u8) w B m.length m) (hd : k.length ≤ d) (hD : Kd.C (Kd.int .u8) w D k.length k) : (Kd.slice e (Kd.int .u8)).C w (some ⟨g, 0, none⟩) [l, m, k].length [l, m, k] :=
  C_rows [l, m, k] [.slice A l.length c, .slice B m.length b, .slice D k.length d] h (by simp) (fun i hi => by
    have h2 : i < 3 := by simpa using hi
    rcases (by omega : i = 0 ∨ i = 1 ∨ i = 2) with rfl | rfl | rfl
    · exact ⟨A, c, rfl, hc, hC⟩
    · exact ⟨B, b, rfl, hb, hB⟩
    · exact ⟨D, d, rfl, hd, hD⟩)
theorem C_zk {w : World} {n : Nat} {v r : Int} {d : List Int} {t : TypeId} (h : w.heap[n]? = some (.cells (zkC v r d) t (0, 0))) (hl : d.length ≤ 9223372036854775807) : Kd.C (Kd.int .u8) w (some ⟨n, 2, none⟩) d.length d := by
  refine ⟨rfl, hl, fun _ => ⟨_, rfl, fun j q hj => ⟨[.int .u8 q], rfl, rfl, fun i u hi => ?_⟩⟩⟩
  have hi0 : i = 0 := by
    have := (List.getElem?_eq_some_iff.1 hi).1
    simp at this; exact this
  subst hi0
  have hu : u = .int .u8 q := by simpa using hi.symm
  subst hu
  have e : j * (Kd.int .u8).sz + 0 = j := by show j * 1 + 0 = j; omega
  have hjl := (List.getElem?_eq_some_iff.1 hj).1
  rw [e, Addr.add_mid, zk_cell2 h j hjl]
  unfold rd
  rw [Int.toNat_natCast, List.getD_eq_getElem?_getD, hj]; rfl
set_option maxHeartbeats 8000000 in
set_option maxRecDepth 100000 in
theorem Join_any (A : Option Addr) (c : Nat) (parts : List (List Int)) (w : World) (hC : Kd.C (Kd.slice 5 (Kd.int .u8)) w A parts.length parts) (hL : parts.flatten.length ≤ 1000000000) :
    Calls Tryd.prog 23 #[.slice A parts.length c] w (RPostB parts.flatten w) := by
  have HJ := Lib.hid (ConcatB_any A c parts w hC hL)
  clear hC
  obtain ⟨n, hn⟩ : ∃ n, n = parts.length := ⟨_, rfl⟩
  rw [← hn] at HJ ⊢
  obtain ⟨L, hL⟩ : ∃ L, L = parts.flatten := ⟨_, rfl⟩
  rw [← hL] at HJ ⊢
  clear hn
  go_enter Tryd.func23, Tryd.ntmps23
  go_wp2_with fail
  refine HJ.out.mono ?_
  rintro e1 w1 ⟨v, rfl, hR, hb⟩
  have HR := Lib.hid hR
  have HB := Lib.hid hb
  clear hR hb
  go_wp2_with fail
  go_ret
  exact ⟨v, rfl, HR.out, HB.out⟩
def payF (y : Nat) (d : List Int) : List Int := 1 :: (putF y ++ d)
def PayPost (w : World) (y : Nat) (d : List Int) (e : Ending) (w' : World) : Prop := ∃ A c, e = .returned (.tuple #[.slice A (payF y d).length c, .bool true]) ∧ (payF y d).length ≤ c ∧ Kd.C (Kd.int .u8) w' A (payF y d).length (payF y d) ∧ Below w.heap.size w w'
set_option maxHeartbeats 8000000 in
set_option maxRecDepth 100000 in
theorem Pay_bad (v r : Int) (d : List Int) (w : World) (hd : d.length = 32) (h : chkF v r ≠ 0) :
    Calls Tryd.prog 9 #[.agg (zkC v r d)] w fun e w' => e = .returned (.tuple #[.slice none 0 0, .bool false]) ∧ Below w.heap.size w w' := by
  have h0 := heap_alloc_last w (.cells (zkC v r d) 26)
  have H0 := Lib.hid h0
  have HB := Lib.hid (below_alloc (Below.refl w.heap.size w) (.cells (zkC v r d) 26))
  have HI := Lib.hid (iz26 v r d hd)
  have HCH := Lib.hid (fun W => check_zk v r d W)
  clear h0
  generalize zkC v r d = Z at *
  rw [code_ne _ h, erc] at HCH
  go_enter Tryd.func9, Tryd.ntmps9
  go_wp2_with ((with_reducible refine gate_dst (N := 4) rfl ?_); (refine wpList_load_row rfl 26 _ rfl _ rfl 26 _ (0, 0) _ H0.out Tryd.underlying26 rfl HI.out ?_))
  refine (HCH.out _).mono ?_
  rintro e1 w1 ⟨rfl, hb1⟩
  have HB1 := Lib.hid (HB.out.trans (hb1.mono (by simp)))
  clear hb1
  go_wp2_with fail
  go_ret2
  exact ⟨rfl, HB1.out⟩
def PutPost (W : World) (l : List Int) (e : Ending) (w' : World) : Prop := ∃ A c, e = .returned (.slice A l.length c) ∧ l.length ≤ c ∧ Kd.C (Kd.int .u8) w' A l.length l ∧ Below W.heap.size W w'
def PutPost2 (w1 W : World) (l : List Int) (e : Ending) (w' : World) : Prop := ∃ A c, e = .returned (.slice A l.length c) ∧ l.length ≤ c ∧ Kd.C (Kd.int .u8) w' A l.length l ∧ (∀ B m k, Kd.C (Kd.int .u8) W B m k → Kd.C (Kd.int .u8) w' B m k) ∧ Below w1.heap.size w1 w'
theorem one_block (W : World) : Kd.C (Kd.int .u8) (W.alloc (.cells #[.int .u8 1] 5)) (some ⟨W.heap.size, 0, none⟩) 1 [1] := C_block (l := [1]) (heap_alloc_last W _) (by decide)
theorem join_pay (y : Nat) (d : List Int) (n : Nat) (w1 : World) (hz : ∀ W, Below w1.heap.size w1 W → W.heap[n]? = some (.cells (zkC 1 (y : Int) d) 26 (0, 0))) (hd : d.length = 32) :
    ∀ (W : World) (g : Nat) (A : Option Addr) (c : Nat), Kd.C (Kd.int .u8) W (some ⟨g, 0, none⟩) 1 [1] → (putF y).length ≤ c → Kd.C (Kd.int .u8) W A (putF y).length (putF y) → Below w1.heap.size w1 W →
      Calls Tryd.prog 23 #[.slice (some ⟨W.heap.size, 0, none⟩) 3 3] (W.alloc (.cells #[.slice (some ⟨g, 0, none⟩) 1 1, .slice A (putF y).length c, .slice (some ⟨n, 2, none⟩) 32 32] 22)) (PutPost w1 (payF y d)) := by
  intro W g A c h1 h2 h3 h4
  have hb := below_alloc (Below.refl W.heap.size W) (.cells #[.slice (some ⟨g, 0, none⟩) 1 1, .slice A (putF y).length c, .slice (some ⟨n, 2, none⟩) 32 32] 22)
  have hl := heap_alloc_last W (.cells #[.slice (some ⟨g, 0, none⟩) ([1] : List Int).length 1, .slice A (putF y).length c, .slice (some ⟨n, 2, none⟩) d.length 32] 22)
  have hq := C_lit3 (e := 5) (l := [1]) (m := putF y) (k := d) hl (Nat.le_refl _) (by rw [hd]; exact Kd.C_below h1 hb) h2 (by rw [hd]; exact Kd.C_below h3 hb) (by rw [hd]; exact Nat.le_refl _) (by
    have h5 := C_zk (hz W h4) (by rw [hd]; decide)
    rw [hd] at h5 ⊢
    exact Kd.C_below h5 hb)
  have hf : ([[1], putF y, d] : List (List Int)).flatten = payF y d := by simp [payF]
  have h := Join_any (some ⟨W.heap.size, 0, none⟩) 3 [[1], putF y, d] _ hq (by rw [hf]; unfold payF; have := putN_len 10 y; rw [List.length_cons, List.length_append, hd]; unfold putF; omega)
  rw [hf, hd] at h
  refine h.mono ?_
  rintro e2 w2 ⟨v, rfl, hR, hb2⟩
  obtain ⟨A2, c2, rfl, hc2, hC2⟩ := Kd.R_reads hR
  exact ⟨A2, c2, rfl, hc2, hC2, h4.trans ((hb.trans (hb2.mono (by rw [World.size_alloc]; omega))).mono h4.size)⟩
set_option maxHeartbeats 8000000 in
set_option maxRecDepth 100000 in
theorem Pay_any (y : Nat) (d : List Int) (w : World) (hd : d.length = 32) (hy : y < 2 ^ 63) :
    Calls Tryd.prog 9 #[.agg (zkC 1 (y : Int) d)] w (PayPost w y d) := by
  have h0 := heap_alloc_last w (.cells (zkC 1 (y : Int) d) 26)
  have H0 := Lib.hid h0
  have HB := Lib.hid (below_alloc (Below.refl w.heap.size w) (.cells (zkC 1 (y : Int) d) 26))
  have HI := Lib.hid (iz26 1 (y : Int) d hd)
  have hc0 : chkF 1 (y : Int) = 0 := by unfold chkF; rw [if_neg (by simp), if_neg (by omega)]
  have HCH := Lib.hid (fun W => check_zk 1 (y : Int) d W)
  rw [hc0, code_eq, ern] at HCH
  clear h0 hc0
  have HZ := Lib.hid (show ∀ W : World, Below (w.heap.size + 1) (w.alloc (.cells (zkC 1 (y : Int) d) 26)) W → W.heap[w.heap.size]? = some (.cells (zkC 1 (y : Int) d) 26 (0, 0)) from fun W hW => (hW.block _ (by omega)).trans H0.out)
  obtain ⟨Z, hZ⟩ : ∃ Z, Z = zkC 1 (y : Int) d := ⟨_, rfl⟩
  rw [← hZ] at H0 HB HI HCH HZ ⊢
  have HZE := Lib.hid hZ
  clear hZ
  go_enter Tryd.func9, Tryd.ntmps9
  go_wp2_with ((with_reducible refine gate_dst (N := 4) rfl ?_); (refine wpList_load_row rfl 26 _ rfl _ rfl 26 _ (0, 0) _ H0.out Tryd.underlying26 rfl HI.out ?_))
  refine (HCH.out _).mono ?_
  rintro e1 w1 ⟨rfl, hb1⟩
  rw [World.size_alloc] at hb1
  have HZ1 := Lib.hid (HZ.out w1 hb1)
  have HB1 := Lib.hid (HB.out.trans (hb1.mono (by omega)))
  clear hb1
  rw [HZE.out] at HZ1
  have q0 := zk_cell0 HZ1.out
  have q1 := zk_cell1 HZ1.out
  go_wp2_with fail
  have hput : ∀ W : World, Below w1.heap.size w1 W → Calls Tryd.prog 24 #[.int .u64 (y : Int)] W (PutPost2 w1 W (putF y)) := fun W hW => (put_any y (by omega) W).mono (by
    rintro e2 w2 ⟨v, rfl, hR, hb⟩
    obtain ⟨A, c, rfl, hc, hC⟩ := Kd.R_reads hR
    exact ⟨A, c, rfl, hc, hC, fun B m k h => Kd.C_below h hb, hW.trans (hb.mono hW.size)⟩)
  have hjoin := join_pay y d w.heap.size w1 (fun W hW => (hW.block _ (blk_lt HZ1.out)).trans HZ1.out) hd
  have HPUT := Lib.hid hput
  have HJ := Lib.hid hjoin
  have HJ2 := Lib.hid (show ∀ (W : World) (A : Option Addr) (c : Nat), (putF y).length ≤ c → Kd.C (Kd.int .u8) W A (putF y).length (putF y) → Below w1.heap.size w1 W →
      Calls Tryd.prog 23 #[.slice (some ⟨W.heap.size + 1, 0, none⟩) 3 3] ((W.alloc (.cells #[.int .u8 1] 5)).alloc (.cells #[.slice (some ⟨W.heap.size, 0, none⟩) 1 1, .slice A (putF y).length c, .slice (some ⟨w.heap.size, 2, none⟩) 32 32] 22)) (PutPost w1 (payF y d)) from fun W A c h1 h2 h3 => by
    have h := hjoin (W.alloc (.cells #[.int .u8 1] 5)) W.heap.size A c (one_block W) h1 (Kd.C_alloc h2 _) (h3.alloc h3.size _)
    rw [World.size_alloc] at h
    exact h)
  have hn1 := blk_lt HZ1.out
  have HQ0 := Lib.hid q0
  have HQ1 := Lib.hid q1
  clear hput hjoin
  generalize hpf : payF y d = PF at *
  generalize hpt : putF y = PT at *
  generalize hnn : w.heap.size = n at *
  have HS := Lib.hid (show ∀ W, Below w1.heap.size w1 W → W.cell? ⟨n, 0, none⟩ = some (.int .u8 1) ∧ W.cell? ⟨n, 1, none⟩ = some (.int .u64 (y : Int)) from fun W hW => ⟨(hW.cell (p := ⟨n, 0, none⟩) hn1).trans HQ0.out, (hW.cell (p := ⟨n, 1, none⟩) hn1).trans HQ1.out⟩)
  go_region_held3 (fun w' => w'.cell? ⟨n, 0, none⟩ = some (.int .u8 1) ∧ w'.cell? ⟨n, 1, none⟩ = some (.int .u64 (y : Int))) (first | with_reducible exact HS.out _ HBW.out | with_reducible exact HS.out _ (HBW.out.alloc HBW.out.size _) | with_reducible exact HS.out _ (below_alloc (Below.refl _ _) _) | with_reducible exact HS.out _ ((HBW.out.alloc HBW.out.size _).alloc (HBW.out.alloc HBW.out.size _).size _) | go_keep) (first | (go_at_call 24; refine (HPUT.out _ (by first | with_reducible exact Below.refl _ _ | with_reducible exact below_alloc (Below.refl _ _) _ | with_reducible exact below_drew0 (Below.refl _ _) | with_reducible exact below_drew0 (below_alloc (Below.refl _ _) _) | with_reducible exact pw_below_drewN (Below.refl _ _) _ | with_reducible exact below_alloc (pw_below_drewN (Below.refl _ _) _) _)).mono ?_; rintro e9 w9 ⟨A9, c9, rfl, hc9, hC9, hb9, hbw⟩; have HL9 := Lib.hid hc9; have HC9 := Lib.hid hC9; have HB9 := Lib.hid hb9; have HBW := Lib.hid hbw; clear hc9 hC9 hb9 hbw) | (go_at_call 23; (first | (with_reducible refine (HJ2.out w9 A9 c9 HL9.out HC9.out HBW.out).mono ?_) | refine (HJ.out w9 w1.heap.size A9 c9 (HB9.out _ _ _ (one_block _)) HL9.out HC9.out HBW.out).mono ?_ | fail); rintro e10 w10 ⟨A10, c10, rfl, hc10, hC10, hb10⟩; have HL10 := Lib.hid hc10; have HC10 := Lib.hid hC10; have HB10 := Lib.hid hb10; have HBW := HB10; clear hc10 hC10 hb10))
  all_goals go_wp2_with fail
  all_goals go_ret2
  all_goals subst hpf
  all_goals exact ⟨A10, c10, rfl, HL10.out, HC10.out, by have h := HB1.out.trans (HB10.out.mono (by have := HB1.out.size; omega)); rw [← hnn] at h; exact h⟩
end Go.Proofs.YtipapffpfggmnaaDoor
namespace Go.Proofs.YtipapffpfggmnaaDoor
open Go.RowKit Go.Proofs.YtipapffpfggmnaaDoorW.PrintWords Go.Proofs.YtipapffpfggmnaaDoorW.PrintLast Go.Proofs.YtipapffpfggmnaaDoorW.PrintMore Go.Proofs.YtipapffpfggmnaaDoor.PRef
set_option linter.unusedVariables false
set_option maxHeartbeats 8000000 in
set_option maxRecDepth 100000 in
theorem Mint_bad (K : Value) (v r : Int) (d : List Int) (w : World) (hd : d.length = 32) (h : chkF v r ≠ 0) :
    Calls Tryd.prog 10 #[K, .agg (zkC v r d)] w fun e w' => e = .returned (.tuple #[.string ⟨#[]⟩, erW (.code (chkF v r))]) ∧ Below w.heap.size w w' := by
  have h0 := heap_alloc_last w (.cells (zkC v r d) 26)
  have H0 := Lib.hid h0
  have HB := Lib.hid (below_alloc (Below.refl w.heap.size w) (.cells (zkC v r d) 26))
  have HI := Lib.hid (iz26 v r d hd)
  have HCH := Lib.hid (fun W => check_zk v r d W)
  have HPB := Lib.hid (fun W => Pay_bad v r d W hd h)
  clear h0
  generalize zkC v r d = Z at *
  rw [code_ne _ h] at HCH
  go_enter Tryd.func10, Tryd.ntmps10
  go_wp2_with ((with_reducible refine gate_dst (N := 10) rfl ?_); (refine wpList_load_row rfl 26 _ rfl _ rfl 26 _ (0, 0) _ H0.out Tryd.underlying26 rfl HI.out ?_))
  refine (HPB.out _).mono ?_
  rintro e1 w1 ⟨rfl, hb1⟩
  have H1 := Lib.hid (blk_below H0.out hb1)
  have HB1 := Lib.hid (HB.out.trans (hb1.mono (by simp)))
  clear hb1
  go_wp2_with ((with_reducible refine gate_dst (N := 16) rfl ?_); (refine wpList_load_row rfl 26 _ rfl _ rfl 26 _ (0, 0) _ H1.out Tryd.underlying26 rfl HI.out ?_))
  refine (HCH.out _).mono ?_
  rintro e2 w2 ⟨rfl, hb2⟩
  have HB2 := Lib.hid (HB1.out.trans (hb2.mono HB1.out.size))
  clear hb2
  go_wp2_with fail
  go_ret2
  exact ⟨rfl, HB2.out⟩
theorem ints_toNat {l : List Int} (h : Bytes l) : ints (l.map Int.toNat) = l := by
  unfold ints
  rw [List.map_map]
  conv => rhs; rw [← List.map_id l]
  apply List.map_congr_left
  intro x hx
  have := h x hx
  show ((x.toNat : Nat) : Int) = x
  omega
theorem toNat_lt {l : List Int} (h : Bytes l) : ∀ x ∈ l.map Int.toNat, x < 2 ^ 8 := by
  intro x hx
  obtain ⟨q, hq, rfl⟩ := List.mem_map.1 hx
  have := h q hq
  omega
def mintF (key : List Int) (y : Nat) (d : List Int) : List Int := payF y d ++ macF key (payF y d)
set_option maxHeartbeats 8000000 in
set_option maxRecDepth 100000 in
theorem Mint_any (A : Option Addr) (c : Nat) (key : List Int) (y : Nat) (d : List Int) (w : World) (hd : d.length = 32) (hy : y < 2 ^ 63) (hC : Kd.C (Kd.int .u8) w A key.length key) (hc : key.length ≤ c) (hL : key.length ≤ 1000000) (hdb : Bytes d) (hK : LaidK w) :
    Calls Tryd.prog 10 #[.slice A key.length c, .agg (zkC 1 (y : Int) d)] w fun e w' => e = .returned (.tuple #[.string (encF ((mintF key y d).map Int.toNat)), .nilIface]) ∧ Below w.heap.size w w' := by
  have HC := Lib.hid hC
  have HK := Lib.hid hK
  have h0 := heap_alloc_last w (.cells (zkC 1 (y : Int) d) 26)
  have H0 := Lib.hid h0
  have HB := Lib.hid (below_alloc (Below.refl w.heap.size w) (.cells (zkC 1 (y : Int) d) 26))
  have HI := Lib.hid (iz26 1 (y : Int) d hd)
  have HPA := Lib.hid (fun W => Pay_any y d W hd hy)
  have hpl : (payF y d).length ≤ 100 := by unfold payF putF; have := putN_len 10 y; rw [List.length_cons, List.length_append, hd]; omega
  clear h0 hC hK
  generalize zkC 1 (y : Int) d = Z at *
  go_enter Tryd.func10, Tryd.ntmps10
  go_wp2_with ((with_reducible refine gate_dst (N := 10) rfl ?_); (refine wpList_load_row rfl 26 _ rfl _ rfl 26 _ (0, 0) _ H0.out Tryd.underlying26 rfl HI.out ?_))
  refine (HPA.out _).mono ?_
  rintro e1 w1 ⟨A1, c1, rfl, hc1, hC1, hb1⟩
  have HB1 := Lib.hid (HB.out.trans (hb1.mono (by simp)))
  have HC1 := Lib.hid hC1
  clear hb1 hC1
  have HPB := Lib.hid (show Bytes (payF y d) from fun x hx => by
    unfold payF at hx
    rcases List.mem_cons.1 hx with rfl | hx
    · omega
    · rcases List.mem_append.1 hx with hx | hx
      · exact putN_bytes 10 y x hx
      · exact hdb x hx)
  generalize hpf : payF y d = P at *
  have hmac := mac_any A c key (some ⟨w1.heap.size, 0, none⟩) 1 [P] (w1.alloc (.cells #[.slice A1 P.length c1] 22)) (Kd.C_below HC.out (HB1.out.alloc HB1.out.size _)) hc hL (C_lit1 (heap_alloc_last _ _) hc1 (Kd.C_alloc HC1.out _)) (Nat.le_refl _) (by simp) (by simp; omega) (HK.out.below (HB1.out.alloc HB1.out.size _))
  have hP1 : ([P] : List (List Int)).flatten = P := by simp
  rw [hP1] at hmac
  have HMAC := Lib.hid hmac
  obtain ⟨T, hT⟩ : ∃ T, T = macF key P := ⟨_, rfl⟩
  have htl : T.length = 32 := by rw [hT]; exact macF_len _ _
  rw [← hT] at HMAC
  have HT := Lib.hid hT
  have hi32k := Lib.hid (show (Tryd.prog.info? 24).map (·.size) = some (nums .u8 T).toArray.size by rw [List.size_toArray, nums_length, htl]; exact i32b)
  have hsz32 := Lib.hid (show (nums .u8 (List.replicate 32 0)).toArray.size = (nums .u8 T).toArray.size by rw [List.size_toArray, nums_length, List.size_toArray, nums_length, htl]; rfl)
  have HTL := Lib.hid htl
  clear hmac hP1 hT htl
  go_wp2_with fail
  refine HMAC.out.mono ?_
  rintro e2 w2 ⟨rfl, hb2⟩
  have hb12 := (below_alloc (Below.refl w1.heap.size w1) (.cells #[.slice A1 P.length c1] 22)).trans (hb2.mono (by simp))
  have HB2 := Lib.hid (HB1.out.trans (hb12.mono HB1.out.size))
  have HC2 := Lib.hid (Kd.C_below HC1.out hb12)
  clear hb2 hb12 HMAC
  go_wp2_with (first | ((with_reducible refine gate_dst (N := 8) rfl ?_); refine wpList_alloc_row rfl 24 rfl _ z32 ?_; intro w7 hr7 hb7 hs7; have HRD := Lib.hid hr7; have HBD := Lib.hid hb7; clear hr7 hb7 hs7) | ((with_reducible refine gate_store (t := 24) (p := 8) rfl ?_); (refine wpList_store_row rfl 24 _ _ rfl _ _ rfl rfl 24 _ HRD.out hi32k.out hsz32.out (oneCell_nums _ _) ?_); refine stopHere ?_))
  refine ⟨?_⟩
  have HD8 := Lib.hid (setRow_heap _ _ _ (nums .u8 T).toArray _ _ HRD.out)
  have hrow := Kd.C_below HC2.out HBD.out
  have HB8 := Lib.hid (below_setRow (HB2.out.trans (HBD.out.mono HB2.out.size)) HB2.out.size (nums .u8 T).toArray)
  have HC8 := Lib.hid (C_row hrow (g := w2.heap.size) (fun hp ad ha => by have := C_lt HC2.out hp ad ha; omega) (nums .u8 T).toArray)
  have hlt8 : w2.heap.size < (w7.setRow w2.heap.size (nums .u8 T).toArray).heap.size := blk_lt HD8.out
  clear hrow
  generalize w7.setRow w2.heap.size (nums .u8 T).toArray = w8 at *
  generalize w2.heap.size = n8 at *
  go_wp2_with fail
  have hl2 := heap_alloc_last w8 (.cells #[.slice A1 P.length c1, .slice (some ⟨n8, 0, none⟩) T.length 32] 22)
  have hb8 := below_alloc (Below.refl w8.heap.size w8) (.cells #[.slice A1 P.length c1, .slice (some ⟨n8, 0, none⟩) T.length 32] 22)
  have hj := Join_any (some ⟨w8.heap.size, 0, none⟩) 2 [P, T] _ (C_lit2 (e := 5) hl2 hc1 (Kd.C_below HC8.out hb8) (by rw [HTL.out]; exact Nat.le_refl _) (Kd.C_below (C_block HD8.out (by rw [HTL.out]; decide)) hb8)) (by simp; have := HTL.out; omega)
  rw [HTL.out, show ([P, T] : List (List Int)).flatten = P ++ T by simp] at hj
  rw [HTL.out] at hb8
  refine hj.mono ?_
  rintro e9 w9 ⟨v9, rfl, hR9, hb9⟩
  obtain ⟨A9, c9, rfl, hc9, hC9⟩ := Kd.R_reads hR9
  have HB9 := Lib.hid (HB8.out.trans ((hb8.trans (hb9.mono hb8.size)).mono HB8.out.size))
  have hbytes : Bytes (P ++ T) := HPB.out.append (by rw [HT.out]; exact shaF_bytes _)
  have hit := ints_toNat hbytes
  have hil : ((P ++ T).map Int.toNat).length = (P ++ T).length := List.length_map _
  have henc := Enc_any A9 c9 ((P ++ T).map Int.toNat) w9 (by rw [hit, hil]; exact hC9) (toNat_lt hbytes) (by rw [hil, List.length_append, HTL.out]; omega)
  rw [hil] at henc
  have HENC := Lib.hid henc
  have HMT := Lib.hid (show mintF key y d = P ++ T by unfold mintF; rw [hpf, ← HT.out])
  clear hl2 hb8 hj hR9 hC9 hb9 hbytes hit hil henc hc9
  generalize P ++ T = PT at *
  go_wp2_with fail
  refine HENC.out.mono ?_
  rintro e10 w10 ⟨rfl, hb10⟩
  have HB10 := Lib.hid (HB9.out.trans (hb10.mono HB9.out.size))
  clear hb10
  go_wp2_with fail
  go_ret2
  rw [HMT.out]
  exact ⟨rfl, HB10.out⟩
end Go.Proofs.YtipapffpfggmnaaDoor
