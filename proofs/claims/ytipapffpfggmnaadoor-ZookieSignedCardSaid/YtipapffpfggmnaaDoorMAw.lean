/-
  The plain laws of package zookie: what is minted is verified; what is a payload is parsed. A law's awake over package zookie. A region that draws its order, whose operations only read and whose callees make memory and no more: one walk of the lexical order serves every order. The class of worlds: all that lie below w0.
-/
import Derived.Test.YtipapffpfggmnaaDoorMVer
import Derived.Test.YtipapffpfggmnaaDoorMErr
import Derived.Outline
import Derived.Lib.SlBytesConst
import Derived.Below
import Derived.BigQuiet
import Derived.Deep.QuietTactic
import Derived.Deep.MidRow
import Derived.Laws.Rows
import Derived.WalkKit
namespace Go.Proofs.YtipapffpfggmnaaDoor
open Go.RowKit Go.Proofs.YtipapffpfggmnaaDoorW.PrintWords Go.Proofs.YtipapffpfggmnaaDoorW.PrintLast Go.Proofs.YtipapffpfggmnaaDoorW.PrintMore Go.Proofs.YtipapffpfggmnaaDoor.PRef
set_option linter.unusedVariables false
theorem encF_list (bs : List Nat) : (encF bs).data.toList = (PB.enc6 bs).map sgn := rfl
theorem encF_size (bs : List Nat) : (encF bs).size = PB.encN bs.length := by
  have : (encF bs).size = ((PB.enc6 bs).map sgn).length := rfl
  rw [this, List.length_map, PB.enc6_len]
theorem sval_enc (bs : List Nat) : ∀ c ∈ (PB.enc6 bs).map sgn, (sval c).isNone = false := by
  intro c hc
  obtain ⟨v, hv, rfl⟩ := List.mem_map.1 hc
  have := PB.enc6_lt bs v hv
  rw [sval_sgn ⟨v, this⟩]; rfl
theorem vals_enc (bs : List Nat) : vals ((PB.enc6 bs).map sgn) = PB.enc6 bs := by
  unfold vals
  rw [List.map_map]
  conv => rhs; rw [← List.map_id (PB.enc6 bs)]
  apply List.map_congr_left
  intro v hv
  have := PB.enc6_lt bs v hv
  show (sval (sgn v)).getD 0 = v
  rw [sval_sgn ⟨v, this⟩]; rfl
/-- What is encoded is decoded. -/
theorem decF_enc (bs : List Nat) (h : ∀ x ∈ bs, x < 2 ^ 8) : decF (encF bs).data.toList = (bs, -1) := by
  rw [encF_list, decF_good _ (sval_enc bs), vals_enc, PB.dec_enc h]
  rw [if_pos (show encF bs = ⟨((PB.enc6 bs).map sgn).toArray⟩ from rfl)]
/-- Only what is encoded is decoded, and it is its text. -/
theorem encF_dec (s : ByteArray) (h : (decF s.data.toList).2 < 0) : encF (decF s.data.toList).1 = s ∨ s.size = 0 ∧ (decF s.data.toList).1 = [] := by
  unfold decF at h ⊢
  split at h
  · omega
  · rename_i hf
    split at h
    · rename_i he
      left
      rw [hf] at *
      rw [if_pos he, he]
    · right
      rename_i he
      rw [hf] at *
      have hs : s.size = s.data.toList.length := rfl
      simp only at h
      refine ⟨by omega, ?_⟩
      rw [if_neg he]
theorem payF_len (y : Nat) (d : List Int) (hd : d.length = 32) : (payF y d).length = (putF y).length + 33 := by
  unfold payF; rw [List.length_cons, List.length_append, hd]
theorem payF_bytes (y : Nat) (d : List Int) (hd : Bytes d) : Bytes (payF y d) := by
  intro x hx
  unfold payF at hx
  rcases List.mem_cons.1 hx with rfl | hx
  · omega
  · rcases List.mem_append.1 hx with hx | hx
    · exact putN_bytes 10 y x hx
    · exact hd x hx
/-- What is a payload is parsed. -/
theorem parseF_pay (y : Nat) (d : List Int) (hd : d.length = 32) (hy : y < 2 ^ 63) : parseF (payF y d) = (zkC 1 (y : Int) d, .nil) := by
  have hl := payF_len y d hd
  have hn : numR ((payF y d).drop 1) = ((y : Int), (putF y).length, 0) := numR_put y d (by omega)
  have hr : rd (payF y d) 0 = 1 := rfl
  have hdr : (payF y d).drop (1 + (putF y).length) = d := by
    unfold payF
    rw [Nat.add_comm, List.drop_succ_cons, List.drop_left]
  unfold parseF
  rw [hn]
  simp only
  rw [if_neg (by omega), if_neg (by rw [hr]; simp), if_neg (by simp), if_neg (by omega), if_neg (by omega), if_neg (by omega), hdr]
theorem mintF_len (key : List Int) (y : Nat) (d : List Int) (hd : d.length = 32) : (mintF key y d).length = (putF y).length + 65 := by
  unfold mintF; rw [List.length_append, payF_len y d hd, macF_len]
theorem mintF_bytes (key : List Int) (y : Nat) (d : List Int) (hdb : Bytes d) : Bytes (mintF key y d) :=
  (payF_bytes y d hdb).append (shaF_bytes _)
/-- What is minted is verified. -/
theorem verF_mint (key : List Int) (y : Nat) (d : List Int) (hd : d.length = 32) (hdb : Bytes d) (hy : y < 2 ^ 63) :
    verF key (encF ((mintF key y d).map Int.toNat)).data.toList = (zkC 1 (y : Int) d, .nil) := by
  have hb := mintF_bytes key y d hdb
  have hm := mintF_len key y d hd
  have hp := payF_len y d hd
  unfold verF
  rw [decF_enc _ (toNat_lt hb)]
  simp only
  rw [ints_toNat hb, List.length_map, if_neg (by omega), if_neg (by omega)]
  have ht : (mintF key y d).take ((mintF key y d).length - 32) = payF y d := by
    have e : (mintF key y d).length - 32 = (payF y d).length := by omega
    rw [e]; unfold mintF; rw [List.take_left]
  have hdr : (mintF key y d).drop ((mintF key y d).length - 32) = macF key (payF y d) := by
    have e : (mintF key y d).length - 32 = (payF y d).length := by omega
    rw [e]; unfold mintF; rw [List.drop_left]
  rw [ht, hdr, if_pos rfl, parseF_pay y d hd hy]
theorem zd0_bytes : Bytes zd0 := by intro x hx; have := (List.mem_replicate.1 hx).2; omega
theorem verF_A : verF [] [65] = (zk0, .fault 6 0) := by
  have h : decF [65] = ([], 0) := by kernel_rfl
  unfold verF
  rw [h]
  rfl
theorem C_nil (w : World) : Kd.C (Kd.int .u8) w none 0 [] := ⟨rfl, by decide, fun h => absurd h (by decide)⟩
theorem build17 : ∀ W : World, (Instr.build 26 #[(0, .int .u8 1), (1, .int .u64 7)]).run Tryd.prog W = .ok (.agg (zkC 1 7 zd0)) W := fun W => by kernel_rfl
theorem build1 : ∀ W : World, (Instr.build 26 #[(0, .int .u8 1)]).run Tryd.prog W = .ok (.agg (zkC 1 0 zd0)) W := fun W => by kernel_rfl
theorem build0 : ∀ W : World, (Instr.build 26 #[]).run Tryd.prog W = .ok (.agg (zkC 0 0 zd0)) W := fun W => by kernel_rfl
end Go.Proofs.YtipapffpfggmnaaDoor
namespace Go.Proofs.YtipapffpfggmnaaDoor
open Go.RowKit Go.Proofs.YtipapffpfggmnaaDoorW.PrintWords Go.Proofs.YtipapffpfggmnaaDoorW.PrintLast Go.Proofs.YtipapffpfggmnaaDoorW.PrintMore Go.Proofs.YtipapffpfggmnaaDoor.PRef
set_option linter.unusedVariables false
theorem wpList_load_roww {P : Program} {ops : Array Oper} {rest : List Oper} {op : Oper} {a : Act} {w : World} {Q : Exit → Act → World → Prop} (hw : Region.wanted op (yielded ops a.tmps) = true) (ty : TypeId) (x : Operand) (ho : op.op = .load ty x)
    (g : Nat) (hx : a.eval x = .pointer (some ⟨g, 0, none⟩)) (t : TypeId) (cs : Array Value) (fr : Nat × Nat) (d : TypeDesc) (hg : w.heap[g]? = some (.cells cs t fr))
    (hu : P.underlying ty = some d) (hd : (match d with | .struct _ | .array _ _ => true | _ => false) = true) (hi : (P.info? ty).map (·.size) = some cs.size)
    (h : wpList P ops Q rest (a.put op.dst (.agg cs)) w) : wpList P ops Q (op :: rest) a w := by
  refine BigFrame.wpList_want hw fun K hK => ?_
  unfold Oper.wp execOp
  simp only [ho, hx, Instr.loadAt, Instr.sureAddr, Sem.run_bind, Sem.run_pure, Result.andThen_ok, run_loadVar_row w g t ty cs fr d hg hu hd hi]
  exact hK _ _ h
theorem wpList_build_any {P : Program} {ops : Array Oper} {rest : List Oper} {o : Oper} {a : Act} {w : World} {Q : Exit → Act → World → Prop} (hw : Region.wanted o (yielded ops a.tmps) = true) (t : TypeId) (fs : Array (Nat × Operand)) (ho : o.op = .build t fs)
    (gs : Array (Nat × Value)) (hgs : fs.map (fun p => (p.1, a.eval p.2)) = gs) (v : Value) (hv : ∀ W, (Instr.build t gs).run P W = .ok v W) (h : wpList P ops Q rest (a.put o.dst v) w) : wpList P ops Q (o :: rest) a w := by
  refine BigFrame.wpList_want hw fun K hK => ?_
  subst hgs
  unfold Oper.wp execOp
  simp only [ho, Sem.run_bind, hv, Result.andThen_ok, Sem.run_pure]
  exact hK _ _ h
theorem chain {w a b : World} (h : Below w.heap.size w a) (k : Below a.heap.size a b) : Below w.heap.size w b := h.trans (k.mono h.size)
theorem eql13 : ∀ W : World, (binOp .eql 31 (.iface 35 (.int .i64 13)) (.iface 35 (.int .i64 13))).run Tryd.prog W = .ok (.bool true) W := fun W => by kernel_rfl
theorem eql15 : ∀ W : World, (binOp .eql 31 (.iface 35 (.int .i64 15)) (.iface 35 (.int .i64 15))).run Tryd.prog W = .ok (.bool true) W := fun W => by kernel_rfl
theorem conv_bytes (w : World) (C : Array Value) (n c : Nat) : (convert 22 22 (.slice (some ⟨w.heap.size, 0, none⟩) n c)).run Tryd.prog (w.alloc (.cells C 5)) = .ok (.slice (some ⟨w.heap.size, 0, none⟩) n c) (w.alloc (.cells C 5 (C.size, C.size + 1))) :=
  Lib.run_convert_bytes_const (P := Tryd.prog) w 22 5 C n c Tryd.underlying22 Tryd.underlying5
theorem C_blockF {k : IntKind} {w : World} {g : Nat} {l : List Int} {t : TypeId} {fr : Nat × Nat} (h : w.heap[g]? = some (.cells (nums k l).toArray t fr)) (hl : l.length ≤ 9223372036854775807) : Kd.C (Kd.int k) w (some ⟨g, 0, none⟩) l.length l := by
  refine ⟨rfl, hl, fun _ => ⟨_, rfl, fun j q hj => ⟨[.int k q], rfl, rfl, fun i u hi => ?_⟩⟩⟩
  have hi0 : i = 0 := by
    have := (List.getElem?_eq_some_iff.1 hi).1
    simp at this; exact this
  subst hi0
  have hu : u = .int k q := by simpa using hi.symm
  subst hu
  have e : j * (Kd.int k).sz + 0 = j := by show j * 1 + 0 = j; omega
  rw [e]
  show w.cell? _ = _
  unfold nums at h
  rcases j with _ | j <;> simp [World.cell?, h, Addr.add, hj]
set_option maxHeartbeats 8000000 in
set_option maxRecDepth 100000 in
theorem awake_any (w : World) (hg : LaidErr w) (hK : LaidK w) : Calls Tryd.prog 8 #[] w (BoolPost w true) := by
  have HG := Lib.hid hg
  have HK := Lib.hid hK
  have hcv := conv_bytes
  clear hg hK
  go_enter Tryd.func8, Tryd.ntmps8
  go_wp2_with fail
  refine (Ver_any none 0 [] ⟨#[65]⟩ w (C_nil w) (by decide) (by decide) (by decide) HK.out HG.out).mono ?_
  rintro e1 w1 ⟨rfl, hb1⟩
  have HB1 := Lib.hid hb1
  clear hb1
  rw [show verF [] (⟨#[65]⟩ : ByteArray).data.toList = (zk0, .fault 6 0) from verF_A]
  simp only
  go_wp2_with (first | ((with_reducible refine gate_dst (N := 1) rfl ?_); refine wpList_alloc_row rfl 26 rfl _ zz26 ?_; intro w2 hr2 hb2 hs2; have HR2 := Lib.hid hr2; have HB2 := Lib.hid (chain HB1.out hb2); clear hr2 hb2 hs2) | ((with_reducible refine gate_store (t := 26) (p := 1) rfl ?_); (refine wpList_store_row rfl 26 _ _ rfl _ zk0 rfl rfl 26 _ HR2.out (iz26 0 0 zd0 rfl) rfl (oneCell_zk 0 0 zd0) ?_); refine stopHere ?_))
  refine ⟨?_⟩
  have HN1 := Lib.hid (setRow_heap _ _ _ zk0 _ _ HR2.out)
  have HBA := Lib.hid (below_setRow HB2.out HB1.out.size zk0)
  generalize w2.setRow w1.heap.size zk0 = wA at *
  generalize w1.heap.size = n1 at *
  go_wp2_with ((with_reducible refine gate_dst (N := 14) rfl ?_); refine stopHere ?_)
  refine ⟨?_⟩
  refine wpList_build_any (by rfl) 26 _ rfl #[(0, .int .u8 1), (1, .int .u64 7)] (by simp only [List.map_toArray, List.map_cons, List.map_nil]; rfl) _ build17 ?_
  go_wp2_with (first | ((with_reducible refine gate_dst (N := 3) rfl ?_); refine wpList_alloc_row rfl 26 rfl _ zz26 ?_; intro w3 hr3 hb3 hs3; have HR3 := Lib.hid hr3; have HB3 := Lib.hid hb3; clear hr3 hb3 hs3) | ((with_reducible refine gate_store (t := 26) (p := 3) rfl ?_); (refine wpList_store_row rfl 26 _ _ rfl _ (zkC 1 7 zd0) rfl rfl 26 _ HR3.out (iz26 1 7 zd0 rfl) rfl (oneCell_zk 1 7 zd0) ?_); refine stopHere ?_))
  refine ⟨?_⟩
  have HN3 := Lib.hid (setRow_heap _ _ _ (zkC 1 7 zd0) _ _ HR3.out)
  have HN1b := Lib.hid ((setRow_other w3 wA.heap.size n1 (zkC 1 7 zd0) (Nat.ne_of_lt (blk_lt HN1.out))).trans (blk_below HN1.out HB3.out))
  have HBB := Lib.hid (below_setRow (chain HBA.out HB3.out) HBA.out.size (zkC 1 7 zd0))
  generalize w3.setRow wA.heap.size (zkC 1 7 zd0) = wB at *
  generalize wA.heap.size = n3 at *
  go_wp2_with ((with_reducible refine gate_dst (N := 18) rfl ?_); refine stopHere ?_)
  refine ⟨?_⟩
  have HN3c := Lib.hid ((heap_alloc_old wB (.cells #[.int .u8 107] 5 (1, 2)) (blk_lt HN3.out)).trans HN3.out)
  have HN1c := Lib.hid ((heap_alloc_old wB (.cells #[.int .u8 107] 5 (1, 2)) (blk_lt HN1b.out)).trans HN1b.out)
  have HKY := Lib.hid (C_blockF (l := [107]) (heap_alloc_last wB (.cells #[.int .u8 107] 5 (1, 2))) (by decide))
  have HBC := Lib.hid (HBB.out.alloc HBB.out.size (.cells #[.int .u8 107] 5 (1, 2)))
  generalize wB.alloc (.cells #[.int .u8 107] 5 (1, 2)) = wC at *
  generalize wB.heap.size = n7 at *
  have hm := Mint_any (some ⟨n7, 0, none⟩) 1 [107] 7 zd0 wC zd0_len (by decide) HKY.out (by decide) (by decide) zd0_bytes (HK.out.below HBC.out)
  rw [show ((7 : Nat) : Int) = 7 from rfl] at hm
  have hv := verF_mint [107] 7 zd0 zd0_len zd0_bytes (by decide)
  rw [show ((7 : Nat) : Int) = 7 from rfl] at hv
  have hsz : (encF ((mintF [107] 7 zd0).map Int.toNat)).size ≤ 100000 := by
    rw [encF_size, List.length_map, mintF_len _ _ _ zd0_len]
    have := putN_len 10 7
    unfold PB.encN putF; omega
  have HM := Lib.hid hm
  have HV := Lib.hid hv
  clear hm hv
  generalize encF ((mintF [107] 7 zd0).map Int.toNat) = S at *
  go_wp2_with ((with_reducible refine gate_dst (N := 18) rfl ?_); (refine wpList_load_row rfl 26 _ rfl _ rfl 26 _ (0, 0) _ HN3c.out Tryd.underlying26 rfl (iz26 1 7 zd0 rfl) ?_))
  refine HM.out.mono ?_
  rintro e4 w4 ⟨rfl, hb4⟩
  have HN3d := Lib.hid (blk_below HN3c.out hb4)
  have HB4 := Lib.hid (chain HBC.out hb4)
  clear hb4
  go_wp2_with fail
  have HN3e := Lib.hid ((heap_alloc_old w4 (.cells #[.int .u8 107] 5 (1, 2)) (blk_lt HN3d.out)).trans HN3d.out)
  have HKZ := Lib.hid (C_blockF (l := [107]) (heap_alloc_last w4 (.cells #[.int .u8 107] 5 (1, 2))) (by decide))
  have HBD := Lib.hid (HB4.out.alloc HB4.out.size (.cells #[.int .u8 107] 5 (1, 2)))
  generalize w4.alloc (.cells #[.int .u8 107] 5 (1, 2)) = wD at *
  generalize w4.heap.size = n8 at *
  refine (Ver_any (some ⟨n8, 0, none⟩) 1 [107] S wD HKZ.out (by decide) (by decide) hsz (HK.out.below HBD.out) (HG.out.below HBD.out)).mono ?_
  rintro e5 w5 ⟨rfl, hb5⟩
  have HN3f := Lib.hid (blk_below HN3e.out hb5)
  have HB5 := Lib.hid (chain HBD.out hb5)
  clear hb5
  rw [HV.out]
  simp only
  rw [ern]
  go_wp2_with (first | ((with_reducible refine gate_dst (N := 6) rfl ?_); refine wpList_alloc_row rfl 26 rfl _ zz26 ?_; intro w6 hr6 hb6 hs6; have HR6 := Lib.hid hr6; have HB6 := Lib.hid hb6; clear hr6 hb6 hs6) | ((with_reducible refine gate_store (t := 26) (p := 6) rfl ?_); (refine wpList_store_row rfl 26 _ _ rfl _ (zkC 1 7 zd0) rfl rfl 26 _ HR6.out (iz26 1 7 zd0 rfl) rfl (oneCell_zk 1 7 zd0) ?_); refine stopHere ?_))
  refine ⟨?_⟩
  have HN6 := Lib.hid (setRow_heap _ _ _ (zkC 1 7 zd0) _ _ HR6.out)
  have HN3g := Lib.hid ((setRow_other w6 w5.heap.size n3 (zkC 1 7 zd0) (Nat.ne_of_lt (blk_lt HN3f.out))).trans (blk_below HN3f.out HB6.out))
  have HBE := Lib.hid (below_setRow (chain HB5.out HB6.out) HB5.out.size (zkC 1 7 zd0))
  generalize w6.setRow w5.heap.size (zkC 1 7 zd0) = wE at *
  generalize w5.heap.size = n6 at *
  go_wp2_with ((with_reducible refine gate_dst (N := 30) rfl ?_); refine wpList_build_any (by rfl) 26 _ rfl #[] (by simp only [List.map_toArray, List.map_nil]) _ build0 ?_)
  refine (Mint_bad (.slice none 0 0) 0 0 zd0 wE zd0_len (by decide)).mono ?_
  rintro e7 w7 ⟨rfl, hb7⟩
  have HN3h := Lib.hid (blk_below HN3g.out hb7)
  have HN6h := Lib.hid (blk_below HN6.out hb7)
  have HB7 := Lib.hid (chain HBE.out hb7)
  clear hb7
  rw [show chkF 0 0 = 13 from rfl, erc]
  go_wp2_with fail
  refine (told_any (.fault 6 0) 6 0 w7 (HG.out.below HB7.out)).mono ?_
  rintro e8 w8 ⟨rfl, hb8⟩
  rw [show toldB (.fault 6 0) 6 0 = true from rfl]
  have HN3i := Lib.hid (blk_below HN3h.out hb8)
  have HN6i := Lib.hid (blk_below HN6h.out hb8)
  have HB8 := Lib.hid (chain HB7.out hb8)
  clear hb8
  have hz : ∀ W, (binOp .eql 26 (.agg (zkC 1 7 zd0)) (.agg (zkC 1 7 zd0))).run Tryd.prog W = .ok (.bool true) W := fun W => by rw [zk_eql 1 7 zd0 1 7 zd0 zd0_len zd0_len]; rfl
  have h13 := eql13
  go_wp2_with (first | ((with_reducible refine gate_dst (N := 41) rfl ?_); (refine wpList_load_roww (by rfl) 26 _ rfl _ rfl 26 _ (0, 0) _ HN6i.out Tryd.underlying26 rfl (iz26 1 7 zd0 rfl) ?_)) | ((with_reducible refine gate_dst (N := 42) rfl ?_); (refine wpList_load_roww (by rfl) 26 _ rfl _ rfl 26 _ (0, 0) _ HN3i.out Tryd.underlying26 rfl (iz26 1 7 zd0 rfl) ?_)) | ((with_reducible refine gate_dst (N := 55) rfl ?_); (refine wpList_load_roww (by rfl) 26 _ rfl _ rfl 26 _ (0, 0) _ HN3i.out Tryd.underlying26 rfl (iz26 1 7 zd0 rfl) ?_)) | ((with_reducible refine gate_dst (N := 56) rfl ?_); refine wpList_build_any (by rfl) 26 _ rfl #[(0, .int .u8 1)] (by simp only [List.map_toArray, List.map_cons, List.map_nil]; rfl) _ build1 ?_))
  refine (Newer_any 1 7 zd0 1 0 zd0 w8 zd0_len zd0_len).mono ?_
  rintro e9 w9 ⟨rfl, hb9⟩
  rw [show newF 1 7 zd0 1 0 zd0 = true from rfl]
  have HN3j := Lib.hid (blk_below HN3i.out hb9)
  have HB9 := Lib.hid (chain HB8.out hb9)
  clear hb9
  go_wp2_with (first | ((with_reducible refine gate_dst (N := 60) rfl ?_); (refine wpList_load_roww (by rfl) 26 _ rfl _ rfl 26 _ (0, 0) _ HN3j.out Tryd.underlying26 rfl (iz26 1 7 zd0 rfl) ?_)) | ((with_reducible refine gate_dst (N := 61) rfl ?_); (refine wpList_load_roww (by rfl) 26 _ rfl _ rfl 26 _ (0, 0) _ HN3j.out Tryd.underlying26 rfl (iz26 1 7 zd0 rfl) ?_)))
  refine (Newer_any 1 7 zd0 1 7 zd0 w9 zd0_len zd0_len).mono ?_
  rintro e10 w10 ⟨rfl, hb10⟩
  rw [show newF 1 7 zd0 1 7 zd0 = false from rfl]
  have HB10 := Lib.hid (chain HB9.out hb10)
  clear hb10
  go_wp2_with fail
  go_ret
  exact ⟨rfl, HB10.out⟩
end Go.Proofs.YtipapffpfggmnaaDoor
namespace Go.Proofs.YtipapffpfggmnaaDoor
open Go.RowKit
set_option linter.unusedVariables false
/-- A world in which all that was there in w0 is as it was. -/
structure Wx (w0 : World) where
  w : World
  h : Below w0.heap.size w0 w
instance (w0 : World) : Nonempty (Wx w0) := ⟨⟨w0, Below.refl _ _⟩⟩
def Cx (w0 : World) : World → Prop := fun w' => ∃ x : Wx w0, w' = x.w
theorem wx_drew (w : World) : Below w.heap.size w { w with drawn := w.drawn + 1 } := by
  have h := Below.refl w.heap.size w
  exact ⟨h.os, h.tape, h.output, h.size, h.block⟩
theorem wp_region_wx {P : Program} {id : Nat} {Q : Exit → Act → World → Prop} {a : Act} {w : World} {l : List Oper} (hm : P.follows .mixedOrders = true) (hB : Region.lexB .any l.toArray = true)
    (h : wpQuiet P l.toArray (fun w' => ∃ x : Wx w, w' = x.w) (fun a' => ∀ w', (∃ x : Wx w, w' = x.w) → Q .normal a' w') l a) : (Code.region id l.toArray true).wp P Q a w :=
  wp_region_quiet (C := fun w' => ∃ x : Wx w, w' = x.w) hm hB ⟨⟨_, wx_drew w⟩, rfl⟩ (by simpa using h)
/-- A callee that makes memory and no more. -/
theorem calls_wx {P : Program} {f : FuncId} {args : Array Value} {w : World} {x : Wx w} {v : Value} (h : Calls P f args x.w fun e w' => e = .returned v ∧ Below x.w.heap.size x.w w') :
    Calls P f args x.w fun e w'' => e = .returned v ∧ ∃ y : Wx w, w'' = y.w :=
  h.mono fun _ w' ⟨he, hb⟩ => ⟨he, ⟨⟨w', x.h.trans (hb.mono x.h.size)⟩, rfl⟩⟩
theorem gateq {P : Program} {ops : Array Oper} {C : World → Prop} {Q : Act → Prop} {a : Act} {o : Oper} {rest : List Oper} {N : Tmp} (_h : o.dst = some N) (h : wpQuiet P ops C Q (o :: rest) a) : wpQuiet P ops C Q (o :: rest) a := h
/-- The load of a whole variable. -/
theorem wpQuiet_load_row {P : Program} {ops : Array Oper} {w0 : World} {Q : Act → Prop} {a : Act} {o : Oper} {rest : List Oper} (hw : Region.wanted o (yielded ops a.tmps) = true) (ty : TypeId) (x : Operand) (ho : o.op = .load ty x)
    (g : Nat) (hx : a.eval x = .pointer (some ⟨g, 0, none⟩)) (t : TypeId) (cs : Array Value) (fr : Nat × Nat) (d : TypeDesc) (hg : w0.heap[g]? = some (.cells cs t fr))
    (hu : P.underlying ty = some d) (hd : (match d with | .struct _ | .array _ _ => true | _ => false) = true) (hi : (P.info? ty).map (·.size) = some cs.size)
    (h : wpQuiet P ops (fun w' => ∃ x : Wx w0, w' = x.w) Q rest (a.put o.dst (.agg cs))) : wpQuiet P ops (fun w' => ∃ x : Wx w0, w' = x.w) Q (o :: rest) a := by
  refine BigFrame.wpQuiet_want hw fun K hK => ⟨.agg cs, ?_, hK _ h⟩
  rintro w ⟨y, rfl⟩
  have hlt : g < w0.heap.size := (Array.getElem?_eq_some_iff.1 hg).1
  have hg' := (y.h.block g hlt).trans hg
  unfold Oper.quietAt execOp
  simp only [ho, hx, Instr.loadAt, Instr.sureAddr, Sem.run_bind, Sem.run_pure, Result.andThen_ok, run_loadVar_row y.w g t ty cs fr d hg' hu hd hi]
  exact ⟨rfl, rfl⟩
/-- The load of a row that lies in the midst of a block. -/
theorem wpQuiet_load_mid {P : Program} {ops : Array Oper} {w0 : World} {Q : Act → Prop} {a : Act} {o : Oper} {rest : List Oper} (hw : Region.wanted o (yielded ops a.tmps) = true) (ty : TypeId) (x : Operand) (ho : o.op = .load ty x)
    (b k : Nat) (hx : a.eval x = .pointer (some ⟨b, k, none⟩)) (cs : List Value) (d : TypeDesc) (hc : w0.rangeAt b k cs) (hb : b < w0.heap.size)
    (hu : P.underlying ty = some d) (hd : d.isRow = true) (hi : (P.info? ty).map (·.size) = some cs.length)
    (h : wpQuiet P ops (fun w' => ∃ x : Wx w0, w' = x.w) Q rest (a.put o.dst (.agg cs.toArray))) : wpQuiet P ops (fun w' => ∃ x : Wx w0, w' = x.w) Q (o :: rest) a := by
  refine BigFrame.wpQuiet_want hw fun K hK => ⟨.agg cs.toArray, ?_, hK _ h⟩
  rintro w ⟨y, rfl⟩
  have hc' : y.w.rangeAt b k cs := fun j v hv => (y.h.cell (p := ⟨b, k + j, none⟩) hb).trans (hc j v hv)
  unfold Oper.quietAt execOp
  simp only [ho, hx, Instr.loadAt, Instr.sureAddr, Sem.run_bind, Sem.run_pure, Result.andThen_ok, run_loadVar_mid y.w b k ty cs d hc' hu hd hi]
  exact ⟨rfl, rfl⟩
/-- A cell, in all these worlds. -/
theorem wx_cell {w : World} {p : Addr} {v : Value} (h : w.cell? p = some v) (hb : p.block < w.heap.size) : ∀ x : Wx w, x.w.cell? p = some v := fun x => (x.h.cell hb).trans h
theorem wx_bel {w0 w' : World} (h : ∃ x : Wx w0, w' = x.w) : Below w0.heap.size w0 w' := by obtain ⟨x, rfl⟩ := h; exact x.h
end Go.Proofs.YtipapffpfggmnaaDoor
