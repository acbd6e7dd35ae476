/-
  The law ZookieParses, at arguments that are known. The law ZookieVerifies, at arguments that are known. The law ZookieMatchesReference, at arguments that are known.
-/
import Derived.Test.YtipapffpfggmnaaDoorMRef
namespace Go.Proofs.YtipapffpfggmnaaDoor
open Go.RowKit Go.Proofs.YtipapffpfggmnaaDoorW.PrintWords Go.Proofs.YtipapffpfggmnaaDoorW.PrintLast Go.Proofs.YtipapffpfggmnaaDoorW.PrintMore Go.Proofs.YtipapffpfggmnaaDoor.PRef
set_option linter.unusedVariables false
theorem parse_all (b : List Int) (hb : Bytes b) : ∃ (v r : Int) (d : List Int) (er : Er), parseF b = (zkC v r d, er) ∧ d.length = 32 ∧ toldB er (eC er) (eA er) = true ∧ ((er = .nil ∧ v = 1 ∧ Bytes d ∧ ∃ y : Nat, r = (y : Int) ∧ y < 2 ^ 63 ∧ payF y d = b) ∨ (eC er ≠ 0 ∧ v = 0 ∧ r = 0 ∧ d = zd0)) := by
  rcases parse_back b hb with ⟨y, d, h, h2, h3, h4, h5⟩ | ⟨c, a, h, hc⟩
  · exact ⟨1, (y : Int), d, .nil, h, h2, rfl, .inl ⟨rfl, rfl, h3, y, rfl, h4, h5⟩⟩
  · exact ⟨0, 0, zd0, .fault c a, h, zd0_len, told_fault c a hc, .inr ⟨hc, rfl, rfl, rfl⟩⟩
theorem ver_all (key : List Int) (s : ByteArray) : ∃ (v r : Int) (d : List Int) (er : Er), verF key s.data.toList = (zkC v r d, er) ∧ d.length = 32 ∧ toldB er (eC er) (eA er) = true ∧ ((er = .nil ∧ v = 1 ∧ Bytes d ∧ ∃ y : Nat, r = (y : Int) ∧ y < 2 ^ 63 ∧ encF ((mintF key y d).map Int.toNat) = s) ∨ (eC er ≠ 0 ∧ v = 0 ∧ r = 0 ∧ d = zd0)) := by
  rcases ver_back key s with ⟨y, d, h, h2, h3, h4, h5⟩ | ⟨c, a, h, hc⟩
  · exact ⟨1, (y : Int), d, .nil, h, h2, rfl, .inl ⟨rfl, rfl, h3, y, rfl, h4, h5⟩⟩
  · exact ⟨0, 0, zd0, .fault c a, h, zd0_len, told_fault c a hc, .inr ⟨hc, rfl, rfl, rfl⟩⟩
set_option maxHeartbeats 2000000 in
set_option maxRecDepth 100000 in
theorem LPar_any (A : Option Addr) (c : Nat) (b : List Int) (w : World) (hC : Kd.C (Kd.int .u8) w A b.length b) (hc : b.length ≤ c) (hb : Bytes b) (hl : b.length ≤ 9223372036854775807) (hg : LaidErr w) (hK : LaidK w) :
    Calls Tryd.prog 4 #[.slice A b.length c] w (BoolPost w true) := by
  have HC := Lib.hid hC
  have HG := Lib.hid hg
  have HK := Lib.hid hK
  have HBY := Lib.hid hb
  clear hC hg hK
  go_enter Tryd.func4, Tryd.ntmps4
  go_wp2_with fail
  refine (awake_any w HG.out HK.out).mono ?_
  rintro e1 w1 ⟨rfl, hb1⟩
  have HB1 := Lib.hid hb1
  clear hb1
  by_cases h5 : (b.length : Int) > 500
  · go_wp2_with fail
    refine (awake_any w1 (HG.out.below HB1.out) (HK.out.below HB1.out)).mono ?_
    rintro e2 w2 ⟨rfl, hb2⟩
    have HB2 := Lib.hid (chain HB1.out hb2)
    clear hb2
    go_wp2_with fail
    go_ret
    exact ⟨rfl, HB2.out⟩
  · have h5n : b.length ≤ 500 := by omega
    go_wp2_with fail
    obtain ⟨v, r, d, er, hpf, hd, hT, hcase⟩ := parse_all b hb
    refine (Parse_any A c b w1 (Kd.C_below HC.out HB1.out) (by omega) HBY.out (HG.out.below HB1.out)).mono ?_
    rintro e2 w2 ⟨rfl, hb2⟩
    have HB2 := Lib.hid (chain HB1.out hb2)
    clear hb2
    rw [hpf]
    simp only
    have HJ := Lib.hid (iz26 v r d hd)
    have HSZ := Lib.hid (show zk0.size = (zkC v r d).size by rw [zkC_size, hd]; rfl)
    have HOC := Lib.hid (oneCell_zk v r d)
    have hz : ∀ W, (binOp .neq 26 (.agg (zkC v r d)) (.agg (zkC v r d))).run Tryd.prog W = .ok (.bool false) W := fun W => by rw [zk_neq v r d v r d hd hd, decide_eq_true ⟨rfl, rfl, rfl⟩]; rfl
    have HPF := Lib.hid hpf
    have HD := Lib.hid hd
    have HT := Lib.hid hT
    have HCS := Lib.hid hcase
    clear hpf hd hT hcase hb
    obtain ⟨Z, hZ⟩ : ∃ Z, Z = zkC v r d := ⟨_, rfl⟩
    rw [← hZ] at HJ HSZ HOC hz HPF ⊢
    have HZ := Lib.hid hZ
    clear hZ
    go_wp2_with (first | ((with_reducible refine gate_dst (N := 3) rfl ?_); refine wpList_alloc_row rfl 26 rfl _ zz26 ?_; intro w3 hr hb hs; have HRa := Lib.hid hr; have HBa := Lib.hid hb; clear hr hb hs) | ((with_reducible refine gate_store (t := 26) (p := 3) rfl ?_); (refine wpList_store_row rfl 26 _ _ rfl _ Z rfl rfl 26 _ HRa.out HJ.out HSZ.out HOC.out ?_); refine stopHere ?_))
    refine ⟨?_⟩
    have HN3 := Lib.hid (setRow_heap _ _ _ Z _ _ HRa.out)
    have HBa2 := Lib.hid (below_setRow (chain HB2.out HBa.out) HB2.out.size Z)
    generalize w3.setRow w2.heap.size Z = wA at *
    generalize w2.heap.size = n3 at *
    go_wp2_with fail
    refine (RParse_any A c b wA (Kd.C_below HC.out HBa2.out) hc (by omega) HBY.out).mono ?_
    rintro e4 w4 ⟨rfl, hb4⟩
    rw [HPF.out]
    simp only
    have HN3b := Lib.hid (blk_below HN3.out hb4)
    have HB4 := Lib.hid (chain HBa2.out hb4)
    clear hb4
    go_wp2_with (first | ((with_reducible refine gate_dst (N := 5) rfl ?_); refine wpList_alloc_row rfl 26 rfl _ zz26 ?_; intro w5 hr hb hs; have HRb := Lib.hid hr; have HBb := Lib.hid hb; clear hr hb hs) | ((with_reducible refine gate_store (t := 26) (p := 5) rfl ?_); (refine wpList_store_row rfl 26 _ _ rfl _ Z rfl rfl 26 _ HRb.out HJ.out HSZ.out HOC.out ?_); refine stopHere ?_))
    refine ⟨?_⟩
    have HN5 := Lib.hid (setRow_heap _ _ _ Z _ _ HRb.out)
    have HN3c := Lib.hid ((setRow_other w5 w4.heap.size n3 Z (Nat.ne_of_lt (blk_lt HN3b.out))).trans (blk_below HN3b.out HBb.out))
    have HBb2 := Lib.hid (below_setRow (chain HB4.out HBb.out) HB4.out.size Z)
    generalize w5.setRow w4.heap.size Z = wB at *
    generalize w4.heap.size = n5 at *
    go_wp2_with (first | ((with_reducible refine gate_dst (N := 29) rfl ?_); (refine wpList_load_roww (by rfl) 26 _ rfl _ rfl 26 _ (0, 0) _ HN3c.out Tryd.underlying26 rfl HJ.out ?_)) | ((with_reducible refine gate_dst (N := 30) rfl ?_); (refine wpList_load_roww (by rfl) 26 _ rfl _ rfl 26 _ (0, 0) _ HN5.out Tryd.underlying26 rfl HJ.out ?_)))
    refine (told_any er (eC er) (eA er) wB (HG.out.below HBb2.out)).mono ?_
    rintro e6 w6 ⟨rfl, hb6⟩
    rw [HT.out]
    have HN3d := Lib.hid (blk_below HN3c.out hb6)
    have HB6 := Lib.hid (chain HBb2.out hb6)
    clear hb6
    go_wp2_with ((with_reducible refine gate_dst (N := 40) rfl ?_); (refine wpList_load_roww (by rfl) 26 _ rfl _ rfl 26 _ (0, 0) _ HN3d.out Tryd.underlying26 rfl HJ.out ?_))
    rw [HZ.out]
    rcases HCS.out with ⟨rfl, rfl, hdb, y, rfl, hy, hpb⟩ | ⟨hne, rfl, rfl, rfl⟩
    · refine (Pay_any y d w6 HD.out hy).mono ?_
      rintro e7 w7 ⟨A7, c7, rfl, hc7, hC7, hb7⟩
      have HB7 := Lib.hid (chain HB6.out hb7)
      have hsm := sameB_any A7 c7 (payF y d) A c b w7 hC7 hc7 (Kd.C_below HC.out HB7.out) hc (by rw [hpb]; omega)
      rw [decide_eq_true hpb] at hsm
      have HSM := Lib.hid hsm
      clear hsm hb7 hC7 hpb
      rw [show eC .nil = 0 from rfl]
      go_wp2_with fail
      refine HSM.out.mono ?_
      rintro e8 w8 ⟨rfl, hd8⟩
      have HB8 := Lib.hid (chain HB7.out hd8.below)
      clear hd8
      go_wp2_with fail
      go_ret
      exact ⟨rfl, HB8.out⟩
    · refine (Pay_bad 0 0 zd0 w6 zd0_len (by decide)).mono ?_
      rintro e7 w7 ⟨rfl, hb7⟩
      have HB7 := Lib.hid (chain HB6.out hb7)
      clear hb7
      have hne2 : (eC er != 0) = true := by simpa using hne
      go_wp2_with fail
      go_ret
      exact ⟨rfl, HB7.out⟩
end Go.Proofs.YtipapffpfggmnaaDoor
namespace Go.Proofs.YtipapffpfggmnaaDoor
open Go.RowKit Go.Proofs.YtipapffpfggmnaaDoorW.PrintWords Go.Proofs.YtipapffpfggmnaaDoorW.PrintLast Go.Proofs.YtipapffpfggmnaaDoorW.PrintMore Go.Proofs.YtipapffpfggmnaaDoor.PRef
set_option linter.unusedVariables false
set_option maxHeartbeats 2000000 in
set_option maxRecDepth 100000 in
theorem LVer_any (A : Option Addr) (c : Nat) (key : List Int) (s : ByteArray) (w : World) (hC : Kd.C (Kd.int .u8) w A key.length key) (hc : key.length ≤ c) (hb : Bytes key) (hl : key.length ≤ 9223372036854775807) (hs : s.size ≤ 140737488351232) (hg : LaidErr w) (hK : LaidK w) :
    Calls Tryd.prog 5 #[.slice A key.length c, .string s] w (BoolPost w true) := by
  have HC := Lib.hid hC
  have HG := Lib.hid hg
  have HK := Lib.hid hK
  have HBY := Lib.hid hb
  clear hC hg hK
  go_enter Tryd.func5, Tryd.ntmps5
  go_wp2_with fail
  refine (awake_any w HG.out HK.out).mono ?_
  rintro e1 w1 ⟨rfl, hb1⟩
  have HB1 := Lib.hid hb1
  clear hb1
  by_cases h5 : (key.length : Int) > 200
  · go_wp2_with fail
    refine (awake_any w1 (HG.out.below HB1.out) (HK.out.below HB1.out)).mono ?_
    rintro e2 w2 ⟨rfl, hb2⟩
    have HB2 := Lib.hid (chain HB1.out hb2)
    clear hb2
    go_wp2_with fail
    go_ret
    exact ⟨rfl, HB2.out⟩
  by_cases h6 : (s.size : Int) > 500
  · go_wp2_with fail
    refine (awake_any w1 (HG.out.below HB1.out) (HK.out.below HB1.out)).mono ?_
    rintro e2 w2 ⟨rfl, hb2⟩
    have HB2 := Lib.hid (chain HB1.out hb2)
    clear hb2
    go_wp2_with fail
    go_ret
    exact ⟨rfl, HB2.out⟩
  · have h5n : key.length ≤ 200 := by omega
    have h6n : s.size ≤ 500 := by omega
    go_wp2_with fail
    obtain ⟨v, r, d, er, hpf, hd, hT, hcase⟩ := ver_all key s
    refine (Ver_any A c key s w1 (Kd.C_below HC.out HB1.out) hc (by omega) (by omega) (HK.out.below HB1.out) (HG.out.below HB1.out)).mono ?_
    rintro e2 w2 ⟨rfl, hb2⟩
    have HB2 := Lib.hid (chain HB1.out hb2)
    clear hb2
    rw [hpf]
    simp only
    have HJ := Lib.hid (iz26 v r d hd)
    have HSZ := Lib.hid (show zk0.size = (zkC v r d).size by rw [zkC_size, hd]; rfl)
    have HOC := Lib.hid (oneCell_zk v r d)
    have hz : ∀ W, (binOp .neq 26 (.agg (zkC v r d)) (.agg (zkC v r d))).run Tryd.prog W = .ok (.bool false) W := fun W => by rw [zk_neq v r d v r d hd hd, decide_eq_true ⟨rfl, rfl, rfl⟩]; rfl
    have HPF := Lib.hid hpf
    have HD := Lib.hid hd
    have HT := Lib.hid hT
    have HCS := Lib.hid hcase
    clear hpf hd hT hcase hb
    obtain ⟨Z, hZ⟩ : ∃ Z, Z = zkC v r d := ⟨_, rfl⟩
    rw [← hZ] at HJ HSZ HOC hz HPF ⊢
    have HZ := Lib.hid hZ
    clear hZ
    go_wp2_with (first | ((with_reducible refine gate_dst (N := 5) rfl ?_); refine wpList_alloc_row rfl 26 rfl _ zz26 ?_; intro w3 hr hb hs; have HRa := Lib.hid hr; have HBa := Lib.hid hb; clear hr hb hs) | ((with_reducible refine gate_store (t := 26) (p := 5) rfl ?_); (refine wpList_store_row rfl 26 _ _ rfl _ Z rfl rfl 26 _ HRa.out HJ.out HSZ.out HOC.out ?_); refine stopHere ?_))
    refine ⟨?_⟩
    have HN3 := Lib.hid (setRow_heap _ _ _ Z _ _ HRa.out)
    have HBa2 := Lib.hid (below_setRow (chain HB2.out HBa.out) HB2.out.size Z)
    generalize w3.setRow w2.heap.size Z = wA at *
    generalize w2.heap.size = n3 at *
    go_wp2_with fail
    refine (RVer_any A c key s wA (Kd.C_below HC.out HBa2.out) hc (by omega) HBY.out (by omega)).mono ?_
    rintro e4 w4 ⟨rfl, hb4⟩
    rw [HPF.out]
    simp only
    have HN3b := Lib.hid (blk_below HN3.out hb4)
    have HB4 := Lib.hid (chain HBa2.out hb4)
    clear hb4
    go_wp2_with (first | ((with_reducible refine gate_dst (N := 7) rfl ?_); refine wpList_alloc_row rfl 26 rfl _ zz26 ?_; intro w5 hr hb hs; have HRb := Lib.hid hr; have HBb := Lib.hid hb; clear hr hb hs) | ((with_reducible refine gate_store (t := 26) (p := 7) rfl ?_); (refine wpList_store_row rfl 26 _ _ rfl _ Z rfl rfl 26 _ HRb.out HJ.out HSZ.out HOC.out ?_); refine stopHere ?_))
    refine ⟨?_⟩
    have HN5 := Lib.hid (setRow_heap _ _ _ Z _ _ HRb.out)
    have HN3c := Lib.hid ((setRow_other w5 w4.heap.size n3 Z (Nat.ne_of_lt (blk_lt HN3b.out))).trans (blk_below HN3b.out HBb.out))
    have HBb2 := Lib.hid (below_setRow (chain HB4.out HBb.out) HB4.out.size Z)
    generalize w5.setRow w4.heap.size Z = wB at *
    generalize w4.heap.size = n5 at *
    go_wp2_with (first | ((with_reducible refine gate_dst (N := 38) rfl ?_); (refine wpList_load_roww (by rfl) 26 _ rfl _ rfl 26 _ (0, 0) _ HN3c.out Tryd.underlying26 rfl HJ.out ?_)) | ((with_reducible refine gate_dst (N := 39) rfl ?_); (refine wpList_load_roww (by rfl) 26 _ rfl _ rfl 26 _ (0, 0) _ HN5.out Tryd.underlying26 rfl HJ.out ?_)))
    refine (told_any er (eC er) (eA er) wB (HG.out.below HBb2.out)).mono ?_
    rintro e6 w6 ⟨rfl, hb6⟩
    rw [HT.out]
    have HN3d := Lib.hid (blk_below HN3c.out hb6)
    have HB6 := Lib.hid (chain HBb2.out hb6)
    clear hb6
    go_wp2_with ((with_reducible refine gate_dst (N := 50) rfl ?_); (refine wpList_load_roww (by rfl) 26 _ rfl _ rfl 26 _ (0, 0) _ HN3d.out Tryd.underlying26 rfl HJ.out ?_))
    rw [HZ.out]
    rcases HCS.out with ⟨rfl, rfl, hdb, y, rfl, hy, hpb⟩ | ⟨hne, rfl, rfl, rfl⟩
    · refine (Mint_any A c key y d w6 HD.out hy (Kd.C_below HC.out HB6.out) hc (by omega) hdb (HK.out.below HB6.out)).mono ?_
      rintro e7 w7 ⟨rfl, hb7⟩
      have HB7 := Lib.hid (chain HB6.out hb7)
      rw [hpb, show eC .nil = 0 from rfl]
      clear hb7 hpb
      go_wp2_with fail
      go_ret
      exact ⟨rfl, HB7.out⟩
    · refine (Mint_bad _ 0 0 zd0 w6 zd0_len (by decide)).mono ?_
      rintro e7 w7 ⟨rfl, hb7⟩
      have HB7 := Lib.hid (chain HB6.out hb7)
      clear hb7
      have hne2 : (eC er != 0) = true := by simpa using hne
      go_wp2_with fail
      go_ret
      exact ⟨rfl, HB7.out⟩
end Go.Proofs.YtipapffpfggmnaaDoor
namespace Go.Proofs.YtipapffpfggmnaaDoor
open Go.RowKit Go.Proofs.YtipapffpfggmnaaDoorW.PrintWords Go.Proofs.YtipapffpfggmnaaDoorW.PrintLast Go.Proofs.YtipapffpfggmnaaDoorW.PrintMore Go.Proofs.YtipapffpfggmnaaDoor.PRef
set_option linter.unusedVariables false
theorem chk_cases (v r : Int) (h : chkF v r ≠ 0) : chkF v r = 13 ∨ chkF v r = 15 := by
  unfold chkF at h ⊢
  split
  · exact .inl rfl
  · split
    · exact .inr rfl
    · rename_i h1 h2; rw [if_neg h1, if_neg h2] at h; exact absurd rfl h
theorem eql_code (c : Int) (h : c = 13 ∨ c = 15) : ∀ W : World, (binOp .eql 31 (.iface 35 (.int .i64 c)) (.iface 35 (.int .i64 c))).run Tryd.prog W = .ok (.bool true) W := by
  rcases h with rfl | rfl
  · exact eql13
  · exact eql15
set_option maxHeartbeats 1000000 in
set_option maxRecDepth 100000 in
theorem LMat_any (A : Option Addr) (c : Nat) (key : List Int) (v r : Int) (d : List Int) (w : World) (hC : Kd.C (Kd.int .u8) w A key.length key) (hc : key.length ≤ c) (hb : Bytes key) (hl : key.length ≤ 9223372036854775807) (hd : d.length = 32) (hdb : Bytes d) (hr0 : 0 ≤ r) (hr1 : r < 18446744073709551616) (hg : LaidErr w) (hK : LaidK w) :
    Calls Tryd.prog 3 #[.slice A key.length c, .agg (zkC v r d)] w (BoolPost w true) := by
  have hl0 := heap_alloc_last w (.cells (zkC v r d) 26)
  have hB := below_alloc (Below.refl w.heap.size w) (.cells (zkC v r d) 26)
  have HC := Lib.hid hC
  have HZ0 := Lib.hid hl0
  have HB0 := Lib.hid hB
  have HG := Lib.hid hg
  have HK := Lib.hid hK
  have HBY := Lib.hid hb
  have HAW := Lib.hid (awake_any _ (hg.below hB) (hK.below hB))
  have HJ := Lib.hid (iz26 v r d hd)
  have HSZ := Lib.hid (show zk0.size = (zkC v r d).size by rw [zkC_size, hd]; rfl)
  have HOC := Lib.hid (oneCell_zk v r d)
  have hz : ∀ W, (binOp .eql 26 (.agg (zkC v r d)) (.agg (zkC v r d))).run Tryd.prog W = .ok (.bool true) W := fun W => by rw [zk_eql v r d v r d hd hd, decide_eq_true ⟨rfl, rfl, rfl⟩]
  have HD := Lib.hid hd
  have HDB := Lib.hid hdb
  clear hC hg hK hb hl0 hB hd hdb
  obtain ⟨Z, hZ⟩ : ∃ Z, Z = zkC v r d := ⟨_, rfl⟩
  rw [← hZ] at HJ HSZ HOC hz HZ0 HB0 HAW ⊢
  have HZ := Lib.hid hZ
  clear hZ
  go_enter Tryd.func3, Tryd.ntmps3
  go_wp2_with fail
  refine HAW.out.mono ?_
  rintro e1 w1 ⟨rfl, hb1⟩
  have HN := Lib.hid (blk_below HZ0.out hb1)
  have HB1 := Lib.hid (HB0.out.trans (hb1.mono HB0.out.size))
  clear hb1 HAW HB0 HZ0
  generalize hnn : w.heap.size = n at *
  have HNN := Lib.hid hnn
  clear hnn
  have HB1 := Lib.hid (show Below w.heap.size w w1 by rw [HNN.out]; exact HB1.out)
  by_cases h5 : (key.length : Int) > 200
  · go_wp2_with fail
    refine (awake_any w1 (HG.out.below HB1.out) (HK.out.below HB1.out)).mono ?_
    rintro e2 w2 ⟨rfl, hb2⟩
    have HB2 := Lib.hid (chain HB1.out hb2)
    clear hb2
    go_wp2_with fail
    go_ret
    exact ⟨rfl, HB2.out⟩
  have h5n : key.length ≤ 200 := by omega
  by_cases hch : chkF v r = 0
  · -- a right zookie
    have hvr : v = 1 ∧ r < 9223372036854775808 := by
      unfold chkF at hch
      split at hch
      · exact absurd hch (by decide)
      · rename_i h1
        split at hch
        · exact absurd hch (by decide)
        · rename_i h2; exact ⟨Decidable.not_not.1 h1, by omega⟩
    obtain ⟨rfl, hr2⟩ := hvr
    obtain ⟨y, rfl⟩ := Int.eq_ofNat_of_zero_le hr0
    have hy : y < 2 ^ 63 := by omega
    have HY := Lib.hid hy
    have HR0 := Lib.hid hr0
    clear hr1 hr2 hr0 hy hch
    have HCH := Lib.hid (show chkF 1 (y : Int) = 0 by unfold chkF; rw [if_neg (by simp), if_neg (by have := HY.out; omega)])
    go_wp2_with ((with_reducible refine gate_dst (N := 23) rfl ?_); (refine wpList_load_roww (by rfl) 26 _ rfl _ rfl 26 _ (0, 0) _ HN.out Tryd.underlying26 rfl HJ.out ?_))
    rw [HZ.out]
    refine (Pay_any y d w1 HD.out HY.out).mono ?_
    rintro e2 w2 ⟨A2, c2, rfl, hc2, hC2, hb2⟩
    have HN2 := Lib.hid (blk_below HN.out hb2)
    have HB2 := Lib.hid (chain HB1.out hb2)
    have HC2 := Lib.hid hC2
    have HCC2 := Lib.hid hc2
    rw [← HZ.out]
    clear hb2 hC2 hc2
    go_wp2_with ((with_reducible refine gate_dst (N := 29) rfl ?_); (refine wpList_load_roww (by rfl) 26 _ rfl _ rfl 26 _ (0, 0) _ HN2.out Tryd.underlying26 rfl HJ.out ?_))
    rw [HZ.out]
    refine (Mint_any A c key y d w2 HD.out HY.out (Kd.C_below HC.out HB2.out) hc (by omega) HDB.out (HK.out.below HB2.out)).mono ?_
    rintro e3 w3 ⟨rfl, hb3⟩
    have HN3 := Lib.hid (blk_below HN2.out hb3)
    have HB3 := Lib.hid (chain HB2.out hb3)
    have HC3 := Lib.hid (Kd.C_below HC2.out hb3)
    rw [← HZ.out]
    clear hb3
    have HV := Lib.hid (verF_mint key y d HD.out HDB.out HY.out)
    have hsz : (encF ((mintF key y d).map Int.toNat)).size ≤ 100000 := by
      rw [encF_size, List.length_map, mintF_len _ _ _ HD.out]
      have := putN_len 10 y
      unfold PB.encN putF; omega
    obtain ⟨S, hS⟩ : ∃ S, S = encF ((mintF key y d).map Int.toNat) := ⟨_, rfl⟩
    have HRM := Lib.hid (fun W (h : Below w3.heap.size w3 W) => RMint_any A c key 1 y d W HD.out (by have := HY.out; omega) HDB.out (Kd.C_below HC.out (HB3.out.trans (h.mono HB3.out.size))) hc (by omega) HBY.out)
    rw [← hS] at HV hsz HRM ⊢
    clear hS
    go_wp2_with ((with_reducible refine gate_dst (N := 33) rfl ?_); (refine wpList_load_roww (by rfl) 26 _ rfl _ rfl 26 _ (0, 0) _ HN3.out Tryd.underlying26 rfl HJ.out ?_))
    rw [HZ.out]
    refine (RCheck_any 1 (y : Int) d w3 HR0.out).mono ?_
    rintro e4 w4 ⟨rfl, hb4⟩
    have HN4 := Lib.hid (blk_below HN3.out hb4)
    have HB4 := Lib.hid (chain HB3.out hb4)
    have HX4 := Lib.hid hb4
    have HC4 := Lib.hid (Kd.C_below HC3.out hb4)
    rw [← HZ.out, HCH.out]
    clear hb4
    go_wp2_with fail
    have hplen : (payF y d).length ≤ 100 := by rw [payF_len y d HD.out]; have := putN_len 10 y; unfold putF; omega
    have hpa := Parse_any A2 c2 (payF y d) w4 HC4.out (by omega) (payF_bytes y d HDB.out) (HG.out.below HB4.out)
    rw [parseF_pay y d HD.out HY.out, ← HZ.out] at hpa
    refine hpa.mono ?_
    rintro e5 w5 ⟨rfl, hb5⟩
    have HN5 := Lib.hid (blk_below HN4.out hb5)
    have HB5 := Lib.hid (chain HB4.out hb5)
    have HX5 := Lib.hid (HX4.out.trans (hb5.mono HX4.out.size))
    have HC5 := Lib.hid (Kd.C_below HC4.out hb5)
    simp only
    rw [ern]
    clear hb5 hpa
    go_wp2_with (first | ((with_reducible refine gate_dst (N := 10) rfl ?_); refine wpList_alloc_row rfl 26 rfl _ zz26 ?_; intro w6 hr hb hs; have HRa := Lib.hid hr; have HBa := Lib.hid hb; clear hr hb hs) | ((with_reducible refine gate_store (t := 26) (p := 10) rfl ?_); (refine wpList_store_row rfl 26 _ _ rfl _ Z rfl rfl 26 _ HRa.out HJ.out HSZ.out HOC.out ?_); refine stopHere ?_))
    refine ⟨?_⟩
    have HNA := Lib.hid (setRow_heap _ _ _ Z _ _ HRa.out)
    have HN6 := Lib.hid ((setRow_other w6 w5.heap.size n Z (Nat.ne_of_lt (blk_lt HN5.out))).trans (blk_below HN5.out HBa.out))
    have HB6 := Lib.hid (below_setRow (chain HB5.out HBa.out) HB5.out.size Z)
    have HX6 := Lib.hid (below_setRow (HX5.out.trans (HBa.out.mono HX5.out.size)) HX5.out.size Z)
    have HC6 := Lib.hid (C_row (Kd.C_below HC5.out HBa.out) (g := w5.heap.size) (fun hp ad ha => Nat.ne_of_lt (C_lt HC5.out hp ad ha)) Z)
    generalize w6.setRow w5.heap.size Z = wA at *
    generalize w5.heap.size = n5 at *
    go_wp2_with fail
    have hva := Ver_any A c key S wA (Kd.C_below HC.out HB6.out) hc (by omega) hsz (HK.out.below HB6.out) (HG.out.below HB6.out)
    rw [HV.out, ← HZ.out] at hva
    refine hva.mono ?_
    rintro e7 w7 ⟨rfl, hb7⟩
    have HN7 := Lib.hid (blk_below HN6.out hb7)
    have HNA7 := Lib.hid (blk_below HNA.out hb7)
    have HB7 := Lib.hid (chain HB6.out hb7)
    have HX7 := Lib.hid (HX6.out.trans (hb7.mono HX6.out.size))
    have HC7 := Lib.hid (Kd.C_below HC6.out hb7)
    simp only
    rw [ern]
    clear hb7 hva
    go_wp2_with (first | ((with_reducible refine gate_dst (N := 12) rfl ?_); refine wpList_alloc_row rfl 26 rfl _ zz26 ?_; intro w8 hr hb hs; have HRb := Lib.hid hr; have HBb := Lib.hid hb; clear hr hb hs) | ((with_reducible refine gate_store (t := 26) (p := 12) rfl ?_); (refine wpList_store_row rfl 26 _ _ rfl _ Z rfl rfl 26 _ HRb.out HJ.out HSZ.out HOC.out ?_); refine stopHere ?_))
    refine ⟨?_⟩
    have HNB := Lib.hid (setRow_heap _ _ _ Z _ _ HRb.out)
    have HN8 := Lib.hid ((setRow_other w8 w7.heap.size n Z (Nat.ne_of_lt (blk_lt HN7.out))).trans (blk_below HN7.out HBb.out))
    have HNA8 := Lib.hid ((setRow_other w8 w7.heap.size n5 Z (Nat.ne_of_lt (blk_lt HNA7.out))).trans (blk_below HNA7.out HBb.out))
    have HB8 := Lib.hid (below_setRow (chain HB7.out HBb.out) HB7.out.size Z)
    have HX8 := Lib.hid (below_setRow (HX7.out.trans (HBb.out.mono HX7.out.size)) HX7.out.size Z)
    have HC8 := Lib.hid (C_row (Kd.C_below HC7.out HBb.out) (g := w7.heap.size) (fun hp ad ha => Nat.ne_of_lt (C_lt HC7.out hp ad ha)) Z)
    generalize w8.setRow w7.heap.size Z = wB at *
    generalize w7.heap.size = n7 at *
    go_wp2_with ((with_reducible refine gate_dst (N := 68) rfl ?_); (refine wpList_load_roww (by rfl) 26 _ rfl _ rfl 26 _ (0, 0) _ HN8.out Tryd.underlying26 rfl HJ.out ?_))
    rw [HZ.out]
    refine (RPay_any 1 y d wB HD.out (by have := HY.out; omega)).mono ?_
    rintro e9 w9 ⟨v9, rfl, hR9, hb9⟩
    obtain ⟨A9, c9, rfl, hc9, hC9⟩ := Kd.R_reads hR9
    have HN9 := Lib.hid (blk_below HN8.out hb9)
    have HNA9 := Lib.hid (blk_below HNA8.out hb9)
    have HNB9 := Lib.hid (blk_below HNB.out hb9)
    have HB9 := Lib.hid (chain HB8.out hb9)
    have HX9 := Lib.hid (HX8.out.trans (hb9.mono HX8.out.size))
    have hsm := sameB_any A2 c2 (payF y d) A9 c9 (payF y d) w9 (Kd.C_below HC8.out hb9) HCC2.out hC9 hc9 (by omega)
    rw [decide_eq_true rfl] at hsm
    have HSM := Lib.hid hsm
    rw [← HZ.out]
    clear hsm hb9 hR9 hC9 hc9
    go_wp2_with fail
    refine HSM.out.mono ?_
    rintro e10 w10 ⟨rfl, hd10⟩
    have HN10 := Lib.hid (blk_below HN9.out hd10.below)
    have HNA10 := Lib.hid (blk_below HNA9.out hd10.below)
    have HNB10 := Lib.hid (blk_below HNB9.out hd10.below)
    have HB10 := Lib.hid (chain HB9.out hd10.below)
    have HX10 := Lib.hid (HX9.out.trans (hd10.below.mono HX9.out.size))
    clear hd10
    go_wp2_with ((with_reducible refine gate_dst (N := 79) rfl ?_); (refine wpList_load_roww (by rfl) 26 _ rfl _ rfl 26 _ (0, 0) _ HN10.out Tryd.underlying26 rfl HJ.out ?_))
    rw [HZ.out]
    refine (HRM.out w10 HX10.out).mono ?_
    rintro e11 w11 ⟨rfl, hb11⟩
    have HN11 := Lib.hid (blk_below HN10.out hb11)
    have HNA11 := Lib.hid (blk_below HNA10.out hb11)
    have HNB11 := Lib.hid (blk_below HNB10.out hb11)
    have HB11 := Lib.hid (chain HB10.out hb11)
    rw [← HZ.out]
    clear hb11
    go_wp2_with (first | ((with_reducible refine gate_dst (N := 88) rfl ?_); (refine wpList_load_roww (by rfl) 26 _ rfl _ rfl 26 _ (0, 0) _ HNA11.out Tryd.underlying26 rfl HJ.out ?_)) | ((with_reducible refine gate_dst (N := 89) rfl ?_); (refine wpList_load_roww (by rfl) 26 _ rfl _ rfl 26 _ (0, 0) _ HN11.out Tryd.underlying26 rfl HJ.out ?_)) | ((with_reducible refine gate_dst (N := 97) rfl ?_); (refine wpList_load_roww (by rfl) 26 _ rfl _ rfl 26 _ (0, 0) _ HNB11.out Tryd.underlying26 rfl HJ.out ?_)) | ((with_reducible refine gate_dst (N := 98) rfl ?_); (refine wpList_load_roww (by rfl) 26 _ rfl _ rfl 26 _ (0, 0) _ HN11.out Tryd.underlying26 rfl HJ.out ?_)))
    go_ret
    exact ⟨rfl, HB11.out⟩
  · have hcc := chk_cases v r hch
    have hne2 : (chkF v r != 0) = true := by simpa using hch
    have HR0 := Lib.hid hr0
    have HCH := Lib.hid hch
    clear hr1 hr0
    go_wp2_with ((with_reducible refine gate_dst (N := 23) rfl ?_); (refine wpList_load_roww (by rfl) 26 _ rfl _ rfl 26 _ (0, 0) _ HN.out Tryd.underlying26 rfl HJ.out ?_))
    rw [HZ.out]
    refine (Pay_bad v r d w1 HD.out HCH.out).mono ?_
    rintro e2 w2 ⟨rfl, hb2⟩
    have HN2 := Lib.hid (blk_below HN.out hb2)
    have HB2 := Lib.hid (chain HB1.out hb2)
    rw [← HZ.out]
    clear hb2
    go_wp2_with ((with_reducible refine gate_dst (N := 29) rfl ?_); (refine wpList_load_roww (by rfl) 26 _ rfl _ rfl 26 _ (0, 0) _ HN2.out Tryd.underlying26 rfl HJ.out ?_))
    rw [HZ.out]
    refine (Mint_bad _ v r d w2 HD.out HCH.out).mono ?_
    rintro e3 w3 ⟨rfl, hb3⟩
    have HN3 := Lib.hid (blk_below HN2.out hb3)
    have HB3 := Lib.hid (chain HB2.out hb3)
    rw [← HZ.out, erc]
    clear hb3
    go_wp2_with ((with_reducible refine gate_dst (N := 33) rfl ?_); (refine wpList_load_roww (by rfl) 26 _ rfl _ rfl 26 _ (0, 0) _ HN3.out Tryd.underlying26 rfl HJ.out ?_))
    rw [HZ.out]
    refine (RCheck_any v r d w3 HR0.out).mono ?_
    rintro e4 w4 ⟨rfl, hb4⟩
    have HB4 := Lib.hid (chain HB3.out hb4)
    have heq := eql_code (chkF v r) hcc
    clear hb4 hcc hch
    generalize chkF v r = k at *
    go_wp2_with fail
    go_ret
    exact ⟨rfl, HB4.out⟩
end Go.Proofs.YtipapffpfggmnaaDoor
