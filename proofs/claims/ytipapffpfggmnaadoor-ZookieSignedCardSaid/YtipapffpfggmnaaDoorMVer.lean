/-
  Lemmas of package zookie's Verify. Package zookie's Verify. Comparing arrays of bytes, and zookies; package zookie's Newer.
-/
import Derived.Test.YtipapffpfggmnaaDoorMZk
import Derived.ChangeKeysEq
import Derived.Laws.StructEq
namespace Go.Proofs.YtipapffpfggmnaaDoor
open Go.RowKit Go.Proofs.YtipapffpfggmnaaDoorW.PrintWords Go.Proofs.YtipapffpfggmnaaDoorW.PrintLast Go.Proofs.YtipapffpfggmnaaDoorW.PrintMore Go.Proofs.YtipapffpfggmnaaDoor.PRef
set_option linter.unusedVariables false
theorem quiet_of_drawn {P : Program} {f : FuncId} {args : Array Value} {w : World} {n : Nat} {v : Value}
    (h : Calls P f args (w.drewN n) fun e w' => e = .returned v ∧ Drawn0 (w.drewN n) w') : Calls P f args (w.drewN n) fun e w'' => e = .returned v ∧ ∃ m, w'' = w.drewN m :=
  h.mono fun _ _ ⟨he, hm⟩ => by obtain ⟨m, rfl⟩ := hm; exact ⟨he, n + m, World.drewN_drewN ..⟩
theorem eqB_any (A0 : Option Addr) (c0 : Nat) (l0 : List Int) (A1 : Option Addr) (c1 : Nat) (l1 : List Int) (w : World) (h0 : Kd.C (Kd.int .u8) w A0 l0.length l0) (hc0 : l0.length ≤ c0) (h1 : Kd.C (Kd.int .u8) w A1 l1.length l1) (hc1 : l1.length ≤ c1) (hl : l0.length ≤ 100000000) (ha : Bytes l0) (hb : Bytes l1) :
    Calls Tryd.prog 36 #[.slice A0 l0.length c0, .slice A1 l1.length c1] w fun e w' => e = .returned (.bool (decide (l0 = l1))) ∧ Drawn0 w w' := by
  obtain ⟨k, hk⟩ := equal_f l0 l1 hl ha hb
  exact mac_Equal.calls k _ _ _ _ _ _ _ w h0 hc0 h1 hc1 hk
theorem sameB_any (A0 : Option Addr) (c0 : Nat) (l0 : List Int) (A1 : Option Addr) (c1 : Nat) (l1 : List Int) (w : World) (h0 : Kd.C (Kd.int .u8) w A0 l0.length l0) (hc0 : l0.length ≤ c0) (h1 : Kd.C (Kd.int .u8) w A1 l1.length l1) (hc1 : l1.length ≤ c1) (hl : l0.length ≤ 100000000) :
    Calls Tryd.prog 14 #[.slice A0 l0.length c0, .slice A1 l1.length c1] w fun e w' => e = .returned (.bool (decide (l0 = l1))) ∧ Drawn0 w w' := by
  obtain ⟨k, hk⟩ := same_f l0 l1 hl
  exact vestryref01_Same.calls k _ _ _ _ _ _ _ w h0 hc0 h1 hc1 hk
theorem zd0_len : zd0.length = 32 := List.length_replicate
/-- What a Parse comes to has the shape of a zookie. -/
theorem parseF_shape (b : List Int) : ∃ v r d, d.length = 32 ∧ (parseF b).1 = zkC v r d := by
  unfold parseF
  by_cases h0 : b.length = 0
  · rw [if_pos h0]; exact ⟨0, 0, zd0, zd0_len, rfl⟩
  rw [if_neg h0]
  by_cases h1 : rd b 0 ≠ 1
  · rw [if_pos h1]; exact ⟨0, 0, zd0, zd0_len, rfl⟩
  rw [if_neg h1]
  by_cases h2 : (numR (b.drop 1)).2.2 ≠ 0
  · rw [if_pos h2]; exact ⟨0, 0, zd0, zd0_len, rfl⟩
  rw [if_neg h2]
  by_cases h3 : (numR (b.drop 1)).1 > 9223372036854775807
  · rw [if_pos h3]; exact ⟨0, 0, zd0, zd0_len, rfl⟩
  rw [if_neg h3]
  by_cases h4 : b.length < 1 + (numR (b.drop 1)).2.1 + 32
  · rw [if_pos h4]; exact ⟨0, 0, zd0, zd0_len, rfl⟩
  rw [if_neg h4]
  by_cases h5 : 1 + (numR (b.drop 1)).2.1 + 32 < b.length
  · rw [if_pos h5]; exact ⟨0, 0, zd0, zd0_len, rfl⟩
  rw [if_neg h5]
  exact ⟨_, _, _, by rw [List.length_drop]; omega, rfl⟩
/-- What both Verifies compute. -/
def verF (key : List Int) (s : List UInt8) : Array Value × Er :=
  if 0 ≤ (decF s).2 then (zk0, .fault 6 (decF s).2)
  else if (decF s).1.length < 32 then (zk0, .fault 1 ((decF s).1.length : Int))
  else if macF key ((ints (decF s).1).take ((decF s).1.length - 32)) = (ints (decF s).1).drop ((decF s).1.length - 32) then parseF ((ints (decF s).1).take ((decF s).1.length - 32))
  else (zk0, .fault 12 (((decF s).1.length - 32 : Nat) : Int))
theorem decF_len (L : List UInt8) : (decF L).1.length ≤ L.length ∧ (decF L).2 < L.length + 1 := by
  unfold decF
  split
  · rename_i i h
    obtain ⟨h1, -⟩ := List.findIdx?_eq_some_iff_getElem.1 h
    exact ⟨Nat.zero_le _, by show (i : Int) < _; omega⟩
  · split
    · refine ⟨?_, by show (-1 : Int) < _; omega⟩
      show (PB.dec8 (vals L)).length ≤ _
      rw [PB.dec8_len, vals_len]; unfold PB.decN; omega
    · exact ⟨Nat.zero_le _, by show (L.length : Int) - 1 < _; omega⟩
theorem decF_bytes (L : List UInt8) : Bytes (ints (decF L).1) := by
  unfold decF
  split
  · intro x h; cases h
  · split
    · intro x h
      obtain ⟨q, hq, rfl⟩ := List.mem_map.1 h
      have := PB.dec8_lt _ q hq
      omega
    · intro x h; cases h
end Go.Proofs.YtipapffpfggmnaaDoor
namespace Go.Proofs.YtipapffpfggmnaaDoor
open Go.RowKit Go.Proofs.YtipapffpfggmnaaDoorW.PrintWords Go.Proofs.YtipapffpfggmnaaDoorW.PrintLast Go.Proofs.YtipapffpfggmnaaDoorW.PrintMore Go.Proofs.YtipapffpfggmnaaDoor.PRef
set_option linter.unusedVariables false
set_option maxHeartbeats 8000000 in
set_option maxRecDepth 100000 in
theorem Ver_any (A : Option Addr) (c : Nat) (key : List Int) (s : ByteArray) (w : World) (hC : Kd.C (Kd.int .u8) w A key.length key) (hc : key.length ≤ c) (hL : key.length ≤ 1000000) (hs : s.size ≤ 100000) (hK : LaidK w) (hg : LaidErr w) :
    Calls Tryd.prog 13 #[.slice A key.length c, .string s] w (PPost (verF key s.data.toList) w) := by
  have HC := Lib.hid hC
  have HK := Lib.hid hK
  have HG := Lib.hid hg
  clear hC hK hg
  go_enter Tryd.func13, Tryd.ntmps13
  go_wp2_with (first | ((with_reducible refine gate_dst (N := 4) rfl ?_); refine wpList_alloc_row rfl 26 rfl _ zz26 ?_; intro w0 hr0 hb0 hs0; have HR0 := Lib.hid hr0; have HB0 := Lib.hid hb0; clear hr0 hb0 hs0))
  refine (Dec_any s w0 (by omega)).mono ?_
  rintro e1 w1 ⟨A1, c1, rfl, hR1, hb1⟩
  have HR1 := Lib.hid (blk_below HR0.out hb1)
  have HB1 := Lib.hid (HB0.out.trans (hb1.mono HB0.out.size))
  have HD1 := Lib.hid hR1
  clear hR1 hb1
  obtain ⟨V, hV⟩ : ∃ V, V = verF key s.data.toList := ⟨_, rfl⟩
  have HVV := Lib.hid hV
  unfold verF at hV
  have hdl := (decF_len s.data.toList).1
  have hsl : s.data.toList.length = s.size := rfl
  rw [hsl] at hdl
  have HDB := Lib.hid (decF_bytes s.data.toList)
  generalize decF s.data.toList = R at hV HD1 hdl HDB ⊢
  obtain ⟨D, o⟩ := R
  simp only at hV HD1 hdl HDB ⊢
  have HV := Lib.hid hV
  clear hV
  by_cases h1 : 0 ≤ o
  · have HF := Lib.hid (HV.out.trans (if_pos h1))
    have k1 : o ≥ 0 := h1
    go_wp2_with fail
    refine (fault_New 6 o w1).mono ?_
    rintro e9 w9 ⟨rfl, rfl⟩
    go_wp2_with ((with_reducible refine gate_store (t := 26) (p := 4) rfl ?_); (refine wpList_store_row rfl 26 _ _ rfl _ zk0 rfl rfl 26 _ HR1.out (iz26 0 0 zd0 rfl) rfl (oneCell_zk 0 0 zd0) ?_))
    rw [← HVV.out, HF.out]
    refine bodyPost_ret (v := .tuple #[.agg zk0, erW (.fault 6 o)]) (results_cell_tmp Tryd.results13 _ _ _ _ _ (0, 0) _ rfl (setRow_heap _ _ _ _ _ _ HR1.out) Tryd.underlying26 rfl (iz26 0 0 zd0 rfl)) rfl ⟨rfl, below_setRow HB1.out (Nat.le_refl _) _⟩
  · have k1 : ¬ o ≥ 0 := h1
    by_cases h2 : D.length < 32
    · have HF := Lib.hid (HV.out.trans ((if_neg h1).trans (if_pos h2)))
      have k2 : ((D.length : Int) - 32) < 0 := by omega
      go_wp2_with fail
      refine (fault_New 1 (D.length : Int) w1).mono ?_
      rintro e9 w9 ⟨rfl, rfl⟩
      go_wp2_with ((with_reducible refine gate_store (t := 26) (p := 4) rfl ?_); (refine wpList_store_row rfl 26 _ _ rfl _ zk0 rfl rfl 26 _ HR1.out (iz26 0 0 zd0 rfl) rfl (oneCell_zk 0 0 zd0) ?_))
      rw [← HVV.out, HF.out]
      refine bodyPost_ret (v := .tuple #[.agg zk0, erW (.fault 1 (D.length : Int))]) (results_cell_tmp Tryd.results13 _ _ _ _ _ (0, 0) _ rfl (setRow_heap _ _ _ _ _ _ HR1.out) Tryd.underlying26 rfl (iz26 0 0 zd0 rfl)) rfl ⟨rfl, below_setRow HB1.out (Nat.le_refl _) _⟩
    · have k2 : ¬ ((D.length : Int) - 32) < 0 := by omega
      obtain ⟨A', c', he, hcc, hCC⟩ := Kd.R_reads HD1.out
      rw [ints_len] at he hcc hCC
      injection he with e1 e2 e3
      subst e1 e3
      have HCC := Lib.hid hCC
      obtain ⟨m, hm⟩ : ∃ m, m = D.length - 32 := ⟨_, rfl⟩
      have hcast : ((D.length : Int) - 32) = (m : Int) := by omega
      have HCA := Lib.hid hcast
      have k3 : (D.length : Int) - 32 ≤ c1 := by omega
      clear hCC hcast
      have HM := Lib.hid hm
      clear hm
      go_wp2_with fail
      have hm := HM.out
      rw [HCA.out, ← hm]
      rw [← hm] at HV
      have hmD : m + 32 = D.length := by omega
      have HMD := Lib.hid hmD
      clear k3 hm
      obtain ⟨B, hB⟩ : ∃ B, B = (ints D).take m := ⟨_, rfl⟩
      have hbl : B.length = m := by rw [hB, List.length_take, ints_len]; omega
      have hCB : Kd.C (Kd.int .u8) w1 A1 B.length B := by
        have h := Kd.C_take (k := Kd.int .u8) (w := w1) (A := A1) (xs := ints D) (by rw [ints_len]; exact HCC.out) (m := m) (by rw [ints_len]; omega)
        rw [← hB] at h; exact h
      have HCB := Lib.hid hCB
      have hmac := mac_any A c key (some ⟨w1.heap.size, 0, none⟩) 1 [B] (w1.alloc (.cells #[.slice A1 B.length c1] 22)) (Kd.C_below HC.out (HB1.out.alloc HB1.out.size _)) hc hL (C_lit1 (heap_alloc_last _ _) (by omega) (Kd.C_alloc HCB.out _)) (Nat.le_refl _) (by simp) (by simp; omega) (HK.out.below (HB1.out.alloc HB1.out.size _))
      have hP1 : ([B] : List (List Int)).flatten = B := by simp
      rw [hP1, hbl] at hmac
      have HMAC := Lib.hid hmac
      have HBL := Lib.hid hbl
      have HBE := Lib.hid hB
      clear hmac hP1 hB hCB hbl
      refine HMAC.out.mono ?_
      rintro e2 w2 ⟨rfl, hb2⟩
      have hb12 := (below_alloc (Below.refl w1.heap.size w1) (.cells #[.slice A1 m c1] 22)).trans (hb2.mono (by simp))
      have HR2 := Lib.hid (blk_below HR1.out hb12)
      have HB2 := Lib.hid (HB1.out.trans (hb12.mono HB1.out.size))
      have HCC2 := Lib.hid (Kd.C_below HCC.out hb12)
      have HCB2 := Lib.hid (Kd.C_below HCB.out hb12)
      clear hb2 hb12 HMAC
      obtain ⟨T, hT⟩ : ∃ T, T = macF key B := ⟨_, rfl⟩
      have htl : T.length = 32 := by rw [hT]; exact macF_len _ _
      rw [← hT]
      have HT := Lib.hid hT
      have hi32k := Lib.hid (show (Tryd.prog.info? 24).map (·.size) = some (nums .u8 T).toArray.size by rw [List.size_toArray, nums_length, htl]; exact i32b)
      have hsz32 := Lib.hid (show (nums .u8 (List.replicate 32 0)).toArray.size = (nums .u8 T).toArray.size by rw [List.size_toArray, nums_length, List.size_toArray, nums_length, htl]; rfl)
      have HTL := Lib.hid htl
      clear hT htl
      go_wp2_with (first | ((with_reducible refine gate_dst (N := 9) rfl ?_); refine wpList_alloc_row rfl 24 rfl _ z32 ?_; intro w7 hr7 hb7 hs7; have HRD := Lib.hid hr7; have HBD := Lib.hid hb7; clear hr7 hb7 hs7) | ((with_reducible refine gate_store (t := 24) (p := 9) rfl ?_); (refine wpList_store_row rfl 24 _ _ rfl _ _ rfl rfl 24 _ HRD.out hi32k.out hsz32.out (oneCell_nums _ _) ?_); refine stopHere ?_))
      refine ⟨?_⟩
      have HD8 := Lib.hid (setRow_heap _ _ _ (nums .u8 T).toArray _ _ HRD.out)
      have HR8 := Lib.hid ((setRow_other w7 w2.heap.size w.heap.size (nums .u8 T).toArray (Nat.ne_of_lt (blk_lt HR2.out))).trans (blk_below HR2.out HBD.out))
      have HB8 := Lib.hid (below_setRow (HB2.out.trans (HBD.out.mono HB2.out.size)) HB2.out.size (nums .u8 T).toArray)
      have HCC8 := Lib.hid (C_row (Kd.C_below HCC2.out HBD.out) (g := w2.heap.size) (fun hp ad ha => Nat.ne_of_lt (C_lt (xs := ints D) (by rw [ints_len]; exact HCC2.out) (by rw [ints_len]; exact hp) ad ha)) (nums .u8 T).toArray)
      have HCB8 := Lib.hid (C_row (Kd.C_below HCB2.out HBD.out) (g := w2.heap.size) (fun hp ad ha => by have := C_lt HCB2.out hp ad ha; omega) (nums .u8 T).toArray)
      have hn8 := HRD.out
      generalize hw8 : w7.setRow w2.heap.size (nums .u8 T).toArray = w8 at *
      have HW8 := Lib.hid hw8
      clear hw8 hn8
      generalize w2.heap.size = n8 at *
      have hmD := HMD.out
      have hlc : ¬ c1 = m := by have := hcc; omega
      have hdC := Kd.C_drop (m := m) (c := c1) (by rw [ints_len]; exact HCC8.out) (by rw [ints_len]; omega) (by rw [ints_len]; exact hcc)
      rw [if_neg hlc] at hdC
      rw [show m * (Kd.int IntKind.u8).sz = m from Nat.mul_one m] at hdC
      obtain ⟨L, hL⟩ : ∃ L, L = (ints D).drop m := ⟨_, rfl⟩
      rw [← hL] at hdC
      have hLB : Bytes L := fun x hx => HDB.out x (List.mem_of_mem_drop (hL ▸ hx))
      have hLL : L.length = D.length - m := by rw [hL, List.length_drop, ints_len]
      have hTB : Bytes T := by rw [HT.out]; exact shaF_bytes _
      have hBB : Bytes B := fun x hx => HDB.out x (List.mem_of_mem_take (HBE.out ▸ hx))
      have hEQ : ∀ N, Calls Tryd.prog 36 #[.slice (some ⟨n8, 0, none⟩) 32 32, .slice (Option.map (fun x => x.add m) A1) (D.length - m) (c1 - m)] (w8.drewN N) fun e w' => e = .returned (.bool (decide (T = L))) ∧ Drawn0 (w8.drewN N) w' := fun N => by
        have hb := ((Drawn0.refl w8).step N).below
        have h := eqB_any (some ⟨n8, 0, none⟩) 32 T (Option.map (fun x => x.add m) A1) (c1 - m) L (w8.drewN N) (Kd.C_below (C_block HD8.out (by rw [HTL.out]; decide)) hb) (by rw [HTL.out]; exact Nat.le_refl _) (Kd.C_below hdC hb) (by rw [hLL]; omega) (by rw [HTL.out]; decide) hTB hLB
        rw [HTL.out, hLL] at h
        exact h
      have HBB := Lib.hid hBB
      have k4 : m ≤ D.length := by omega
      have k5 : (m : Int) ≤ D.length := by omega
      have k6 : m ≤ c1 := by omega
      have hVL := HV.out.trans ((if_neg (by omega : ¬ 0 ≤ o)).trans (if_neg (by omega : ¬ D.length < 32)))
      rw [← HBE.out, ← HT.out, ← hL] at hVL
      have HVL := Lib.hid hVL
      clear hVL hLL hLB hTB hBB hdC hL
      by_cases hT : T = L
      · have HF := Lib.hid (HVL.out.trans (if_pos hT))
        rw [decide_eq_true hT] at hEQ
        have HEQ := Lib.hid hEQ
        clear hEQ hT
        go_wp2_with fail
        go_quiet ((go_at_call 36; exact quiet_of_drawn (HEQ.out _)))
        have hd9 : Drawn0 w8 (w8.drewN nq) := (Drawn0.refl w8).step nq
        generalize w8.drewN nq = w9 at *
        have HR9 := Lib.hid (blk_below HR8.out hd9.below)
        have HB9 := Lib.hid (HB8.out.trans (hd9.below.mono HB8.out.size))
        have hPA := Parse_any A1 c1 B w9 (Kd.C_below HCB8.out hd9.below) (by rw [HBL.out]; omega) HBB.out (HG.out.below HB9.out)
        obtain ⟨v', r', d', hd', he'⟩ := parseF_shape B
        obtain ⟨r, hr⟩ : ∃ r, r = parseF B := ⟨_, rfl⟩
        rw [← hr] at hPA HF he'
        obtain ⟨a, er⟩ := r
        simp only at he'
        subst he'
        rw [HBL.out] at hPA
        have HPA := Lib.hid hPA
        have HD' := Lib.hid hd'
        clear hPA hd9 hr hd'
        go_wp2_with fail
        refine HPA.out.mono ?_
        rintro e5 w5 ⟨rfl, hb5⟩
        have HR5 := Lib.hid (blk_below HR9.out hb5)
        have HB5 := Lib.hid (HB9.out.trans (hb5.mono HB9.out.size))
        clear hb5
        simp only
        go_wp2_with ((with_reducible refine gate_store (t := 26) (p := 4) rfl ?_); (refine wpList_store_row rfl 26 _ _ rfl _ (zkC v' r' d') rfl rfl 26 _ HR5.out (iz26 v' r' d' HD'.out) (by rw [zkC_size, HD'.out]; rfl) (oneCell_zk v' r' d') ?_))
        rw [← HVV.out, HF.out]
        refine bodyPost_ret (v := .tuple #[.agg (zkC v' r' d'), erW er]) (results_cell_tmp Tryd.results13 _ _ _ _ _ (0, 0) _ rfl (setRow_heap _ _ _ _ _ _ HR5.out) Tryd.underlying26 rfl (iz26 v' r' d' HD'.out)) rfl ⟨rfl, below_setRow HB5.out (Nat.le_refl _) _⟩
      · have HF := Lib.hid (HVL.out.trans (if_neg hT))
        rw [decide_eq_false hT] at hEQ
        have HEQ := Lib.hid hEQ
        clear hEQ hT
        go_wp2_with fail
        go_quiet ((go_at_call 36; exact quiet_of_drawn (HEQ.out _)))
        have hd9 : Drawn0 w8 (w8.drewN nq) := (Drawn0.refl w8).step nq
        generalize w8.drewN nq = w9 at *
        have HR9 := Lib.hid (blk_below HR8.out hd9.below)
        have HB9 := Lib.hid (HB8.out.trans (hd9.below.mono HB8.out.size))
        clear hd9
        go_wp2_with fail
        refine (fault_New 12 (m : Int) w9).mono ?_
        rintro e5 w5 ⟨rfl, rfl⟩
        go_wp2_with ((with_reducible refine gate_store (t := 26) (p := 4) rfl ?_); (refine wpList_store_row rfl 26 _ _ rfl _ zk0 rfl rfl 26 _ HR9.out (iz26 0 0 zd0 rfl) rfl (oneCell_zk 0 0 zd0) ?_))
        rw [← HVV.out, HF.out]
        refine bodyPost_ret (v := .tuple #[.agg zk0, erW (.fault 12 (m : Int))]) (results_cell_tmp Tryd.results13 _ _ _ _ _ (0, 0) _ rfl (setRow_heap _ _ _ _ _ _ HR9.out) Tryd.underlying26 rfl (iz26 0 0 zd0 rfl)) rfl ⟨rfl, below_setRow HB9.out (Nat.le_refl _) _⟩
end Go.Proofs.YtipapffpfggmnaaDoor
namespace Go.Proofs.YtipapffpfggmnaaDoor
open Go.RowKit Go.Proofs.YtipapffpfggmnaaDoorW.PrintWords Go.Proofs.YtipapffpfggmnaaDoorW.PrintLast Go.Proofs.YtipapffpfggmnaaDoorW.PrintMore Go.Proofs.YtipapffpfggmnaaDoor.PRef
set_option linter.unusedVariables false
set_option linter.unusedSimpArgs false
theorem u8plain : Tryd.prog.plainKey 5 = true := by kernel_rfl
theorem u64plain : Tryd.prog.plainKey 23 = true := by kernel_rfl
theorem cellsU8 : Tryd.prog.cellsOf 5 = 1 := by kernel_rfl
theorem cells32 : Tryd.prog.cellsOf 24 = 32 := by kernel_rfl
theorem nums_at (a : List Int) (i : Nat) (h : i < a.length) : (nums .u8 a).toArray[i]? = some (.int .u8 (rd a (i : Int))) := by
  unfold nums rd
  rw [List.getElem?_toArray, List.getElem?_map, Int.toNat_natCast, List.getD_eq_getElem?_getD, List.getElem?_eq_getElem h]
  rfl
theorem eqItems_nums (d : Nat) (a b : List Int) (w : World) : ∀ is : List Nat, (∀ i ∈ is, i < a.length ∧ i < b.length) →
    (Op.eqItems (d + 1) 5 1 (nums .u8 a).toArray (nums .u8 b).toArray is).run Tryd.prog w = .ok (decide (∀ i ∈ is, rd a ((i : Nat) : Int) = rd b ((i : Nat) : Int))) w
  | [], _ => by simp [Op.eqItems]
  | i :: is, h => by
    obtain ⟨h1, h2⟩ := h i (List.mem_cons_self ..)
    rw [Op.eqItems]
    simp only [Nat.mul_one, Sem.run_bind, run_part_plain w u8plain (nums_at a i h1), run_part_plain w u8plain (nums_at b i h2), Result.andThen_ok, run_equalIn_int w d 5 .u8 .u8 _ _ Tryd.underlying5]
    by_cases e : rd a ((i : Nat) : Int) = rd b ((i : Nat) : Int)
    · have e1 : (rd a ((i : Nat) : Int) == rd b ((i : Nat) : Int)) = true := beq_iff_eq.2 e
      simp only [e1, Bool.not_true, Bool.false_eq_true, if_false, eqItems_nums d a b w is (fun j hj => h j (List.mem_cons_of_mem _ hj))]
      simp [e]
    · have e1 : (rd a ((i : Nat) : Int) == rd b ((i : Nat) : Int)) = false := by simpa using e
      simp only [e1, Bool.not_false, if_true, Sem.run_pure]
      simp [e]
theorem range_eq (a b : List Int) (n : Nat) (ha : a.length = n) (hb : b.length = n) : (∀ i ∈ List.range n, rd a ((i : Nat) : Int) = rd b ((i : Nat) : Int)) ↔ a = b := by
  constructor
  · intro h
    refine List.ext_getElem (by omega) fun i h1 h2 => ?_
    have := h i (List.mem_range.2 (by omega))
    unfold rd at this
    rw [Int.toNat_natCast, List.getD_eq_getElem?_getD, List.getD_eq_getElem?_getD, List.getElem?_eq_getElem h1, List.getElem?_eq_getElem h2] at this
    exact this
  · rintro rfl i _; rfl
set_option maxRecDepth 100000 in
theorem arr_equalIn (d : Nat) (a b : List Int) (ha : a.length = 32) (hb : b.length = 32) (w : World) : (Op.equalIn (d + 2) 24 (.agg (nums .u8 a).toArray) (.agg (nums .u8 b).toArray)).run Tryd.prog w = .ok (decide (a = b)) w := by
  obtain ⟨i0, hi, -⟩ := info_parts infoEB
  rw [run_equalIn_array w (d + 1) _ _ Tryd.underlying24 hi, cellsU8, eqItems_nums d a b w _ (fun i hi => by have := List.mem_range.1 hi; omega)]
  congr 1
  rw [decide_eq_decide]
  exact range_eq a b 32 ha hb
theorem arr_eql (a b : List Int) (ha : a.length = 32) (hb : b.length = 32) (w : World) : (binOp .eql 24 (.agg (nums .u8 a).toArray) (.agg (nums .u8 b).toArray)).run Tryd.prog w = .ok (.bool (decide (a = b))) w := by
  rw [run_eql_struct, arr_equalIn 9998 a b ha hb, Result.andThen_ok]
theorem arr_neq (a b : List Int) (ha : a.length = 32) (hb : b.length = 32) (w : World) : (binOp .neq 24 (.agg (nums .u8 a).toArray) (.agg (nums .u8 b).toArray)).run Tryd.prog w = .ok (.bool (!decide (a = b))) w := by
  rw [run_neq_struct, arr_equalIn 9998 a b ha hb, Result.andThen_ok]
theorem zk_extract (v r : Int) (d : List Int) (hd : d.length = 32) : (zkC v r d).extract 2 (2 + 32) = (nums .u8 d).toArray := by
  apply Array.ext'
  rw [Array.toList_extract]
  unfold zkC
  have h : (nums .u8 d).length = 32 := by rw [nums_length]; exact hd
  simp [List.extract, h, List.take_of_length_le]
theorem part_dig (v r : Int) (d : List Int) (hd : d.length = 32) (w : World) : (part 24 (zkC v r d) 2).run Tryd.prog w = .ok (.agg (nums .u8 d).toArray) w := by
  obtain ⟨i, hi⟩ := Option.map_eq_some_iff.1 i32b
  simp only [part, isAgg, Sem.run_bind, run_underlying Tryd.underlying24, Result.andThen_ok, Sem.run_pure, if_true, run_sizeOf w hi.1, cells32, zk_extract v r d hd]
theorem eqFields_cons {P : Program} {w : World} {d : Nat} {xs ys : Array Value} {f : Field} {fs : List Field} {t : TypeId} {o : Nat} {x y : Value} {r : Bool} (hn : (f.name != "_") = true) (ht : f.type = t) (ho : f.offset = o)
    (hx : (part t xs o).run P w = .ok x w) (hy : (part t ys o).run P w = .ok y w) (hr : (Op.equalIn d t x y).run P w = .ok r w) :
    (Op.eqFields d xs ys (f :: fs)).run P w = if r = true then (Op.eqFields d xs ys fs).run P w else .ok false w := by
  have hn' : f.name ≠ "_" := by simpa using hn
  subst ht ho
  rw [Op.eqFields, if_pos hn']
  simp only [Sem.run_bind, hx, hy, hr, Result.andThen_ok]
  cases r <;> simp
theorem zk_fields : (Tryd.prog.fieldsOf 26).toList.map (fun f => (f.name != "_", f.type, f.offset)) = [(true, 5, 0), (true, 23, 1), (true, 24, 2)] := by kernel_rfl
theorem zk_struct : Tryd.prog.underlying 26 = some (.struct (Tryd.prog.fieldsOf 26)) := by kernel_rfl
theorem three_of {α β : Type} {g : α → β} {l : List α} {a b c : β} (h : l.map g = [a, b, c]) : ∃ x y z, l = [x, y, z] ∧ g x = a ∧ g y = b ∧ g z = c := by
  rcases l with _ | ⟨x, _ | ⟨y, _ | ⟨z, _ | ⟨q, l⟩⟩⟩⟩ <;> simp at h
  exact ⟨x, y, z, rfl, h.1, h.2.1, h.2.2⟩
theorem zk_equalIn (n : Nat) (v r : Int) (d : List Int) (v' r' : Int) (d' : List Int) (hd : d.length = 32) (hd' : d'.length = 32) (w : World) :
    (Op.equalIn (n + 3) 26 (.agg (zkC v r d)) (.agg (zkC v' r' d'))).run Tryd.prog w = .ok (decide (v = v' ∧ r = r' ∧ d = d')) w := by
  have e0 : ∀ v r d, (zkC v r d)[0]? = some (.int .u8 v) := fun _ _ _ => rfl
  have e1 : ∀ v r d, (zkC v r d)[1]? = some (.int .u64 r) := fun _ _ _ => rfl
  rw [run_equalIn_struct w (n + 2) 26 _ _ zk_struct Tryd.stoodInHeld26]
  have p0 := run_part_plain w u8plain (e0 v r d)
  have p0' := run_part_plain w u8plain (e0 v' r' d')
  have p1 := run_part_plain w u64plain (e1 v r d)
  have p1' := run_part_plain w u64plain (e1 v' r' d')
  have p2 := part_dig v r d hd w
  have p2' := part_dig v' r' d' hd' w
  have q0 := run_equalIn_int (P := Tryd.prog) w (n + 1) 5 .u8 .u8 v v' Tryd.underlying5
  have q1 := run_equalIn_int (P := Tryd.prog) w (n + 1) 23 .u64 .u64 r r' Tryd.underlying23
  have q2 := arr_equalIn n d d' hd hd' w
  obtain ⟨f0, f1, f2, hl, h0, h1, h2⟩ := three_of zk_fields
  rw [hl]
  simp only [Prod.mk.injEq] at h0 h1 h2
  rw [eqFields_cons h0.1 h0.2.1 h0.2.2 p0 p0' q0, eqFields_cons h1.1 h1.2.1 h1.2.2 p1 p1' q1, eqFields_cons h2.1 h2.2.1 h2.2.2 p2 p2' q2]
  rw [show ∀ x y : Array Value, (Op.eqFields (n + 2) x y []).run Tryd.prog w = .ok true w from fun _ _ => by simp [Op.eqFields]]
  by_cases h0 : v = v'
  · by_cases h1 : r = r'
    · by_cases h2 : d = d' <;> simp [h0, h1, h2]
    · simp [h0, h1]
  · simp [h0]
theorem zk_eql (v r : Int) (d : List Int) (v' r' : Int) (d' : List Int) (hd : d.length = 32) (hd' : d'.length = 32) (w : World) :
    (binOp .eql 26 (.agg (zkC v r d)) (.agg (zkC v' r' d'))).run Tryd.prog w = .ok (.bool (decide (v = v' ∧ r = r' ∧ d = d'))) w := by
  rw [run_eql_struct, zk_equalIn 9997 v r d v' r' d' hd hd', Result.andThen_ok]
theorem zk_neq (v r : Int) (d : List Int) (v' r' : Int) (d' : List Int) (hd : d.length = 32) (hd' : d'.length = 32) (w : World) :
    (binOp .neq 26 (.agg (zkC v r d)) (.agg (zkC v' r' d'))).run Tryd.prog w = .ok (.bool (!decide (v = v' ∧ r = r' ∧ d = d'))) w := by
  rw [run_neq_struct, zk_equalIn 9997 v r d v' r' d' hd hd', Result.andThen_ok]
theorem wpList_load_midw {P : Program} {ops : Array Oper} {rest : List Oper} {op : Oper} {a : Act} {w : World} {Q : Exit → Act → World → Prop} (hw : Region.wanted op (yielded ops a.tmps) = true) (ty : TypeId) (x : Operand) (ho : op.op = .load ty x)
    (b o : Nat) (hx : a.eval x = .pointer (some ⟨b, o, none⟩)) (cs : List Value) (d : TypeDesc) (hc : w.rangeAt b o cs)
    (hu : P.underlying ty = some d) (hd : d.isRow = true) (hi : (P.info? ty).map (·.size) = some cs.length)
    (h : wpList P ops Q rest (a.put op.dst (.agg cs.toArray)) w) : wpList P ops Q (op :: rest) a w :=
  BigFrame.wpList_want hw fun _ hK => wp_load_mid ty x ho b o hx cs d hc hu hd hi (hK _ _ h)
theorem zk_range {w : World} {n : Nat} {v r : Int} {d : List Int} {t : TypeId} (h : w.heap[n]? = some (.cells (zkC v r d) t (0, 0))) : w.rangeAt n 2 (nums .u8 d) := by
  intro j u hu
  unfold nums at hu
  rw [List.getElem?_map] at hu
  obtain ⟨x, hx, rfl⟩ := Option.map_eq_some_iff.1 hu
  obtain ⟨hj, hx2⟩ := List.getElem?_eq_some_iff.1 hx
  rw [zk_cell2 h j hj]
  unfold rd
  rw [Int.toNat_natCast, List.getD_eq_getElem?_getD, hx]; rfl
theorem i32n (d : List Int) (hd : d.length = 32) : (Tryd.prog.info? 24).map (·.size) = some (nums .u8 d).length := by
  rw [nums_length, hd]; exact i32b
def newF (v r : Int) (d : List Int) (v' r' : Int) (d' : List Int) : Bool := decide (v = v' ∧ d = d' ∧ r > r')
set_option maxHeartbeats 8000000 in
set_option maxRecDepth 100000 in
theorem Newer_any (v r : Int) (d : List Int) (v' r' : Int) (d' : List Int) (w : World) (hd : d.length = 32) (hd' : d'.length = 32) :
    Calls Tryd.prog 21 #[.agg (zkC v r d), .agg (zkC v' r' d')] w fun e w' => e = .returned (.bool (newF v r d v' r' d')) ∧ Below w.heap.size w w' := by
  have hl0 := heap_alloc_last w (.cells (zkC v r d) 26)
  have hl1 := heap_alloc_last (w.alloc (.cells (zkC v r d) 26)) (.cells (zkC v' r' d') 26)
  rw [World.size_alloc] at hl1
  have hl0' := (heap_alloc_old (w.alloc (.cells (zkC v r d) 26)) (.cells (zkC v' r' d') 26) (by rw [World.size_alloc]; omega)).trans hl0
  have q0 := zk_cell0 hl0'
  have q1 := zk_cell1 hl0'
  have q0' := zk_cell0 hl1
  have q1' := zk_cell1 hl1
  have HG := Lib.hid (zk_range hl0')
  have HG' := Lib.hid (zk_range hl1)
  have HB := Lib.hid (below_alloc (below_alloc (Below.refl w.heap.size w) (.cells (zkC v r d) 26)) (.cells (zkC v' r' d') 26))
  have HI := Lib.hid (i32n d hd)
  have HI' := Lib.hid (i32n d' hd')
  have HQ := Lib.hid (arr_eql d d' hd hd')
  clear hl0 hl1 hl0' hd hd'
  generalize zkC v r d = Z at *
  generalize zkC v' r' d' = Z' at *
  by_cases hv : v = v'
  · subst hv
    by_cases hdd : d = d'
    · have hq := HQ.out
      rw [decide_eq_true hdd] at hq
      by_cases hr : r > r'
      · have HR := Lib.hid (show newF v r d v r' d' = true from decide_eq_true ⟨rfl, hdd, hr⟩)
        clear hdd HQ
        go_enter Tryd.func21, Tryd.ntmps21
        go_wp2_with (first | ((with_reducible refine gate_dst (N := 12) rfl ?_); refine wpList_load_midw (by rfl) 24 _ rfl w.heap.size 2 rfl (nums .u8 d) _ HG.out Tryd.underlying24 rfl HI.out ?_) | ((with_reducible refine gate_dst (N := 14) rfl ?_); refine wpList_load_midw (by rfl) 24 _ rfl (w.heap.size + 1) 2 rfl (nums .u8 d') _ HG'.out Tryd.underlying24 rfl HI'.out ?_))
        go_ret
        rw [HR.out]
        exact ⟨rfl, HB.out⟩
      · have HR := Lib.hid (show newF v r d v r' d' = false from decide_eq_false fun h => hr h.2.2)
        clear hdd HQ
        go_enter Tryd.func21, Tryd.ntmps21
        go_wp2_with (first | ((with_reducible refine gate_dst (N := 12) rfl ?_); refine wpList_load_midw (by rfl) 24 _ rfl w.heap.size 2 rfl (nums .u8 d) _ HG.out Tryd.underlying24 rfl HI.out ?_) | ((with_reducible refine gate_dst (N := 14) rfl ?_); refine wpList_load_midw (by rfl) 24 _ rfl (w.heap.size + 1) 2 rfl (nums .u8 d') _ HG'.out Tryd.underlying24 rfl HI'.out ?_))
        go_ret
        rw [HR.out]
        exact ⟨rfl, HB.out⟩
    · have hq := HQ.out
      rw [decide_eq_false hdd] at hq
      have HR := Lib.hid (show newF v r d v r' d' = false from decide_eq_false fun h => hdd h.2.1)
      clear hdd HQ
      go_enter Tryd.func21, Tryd.ntmps21
      go_wp2_with (first | ((with_reducible refine gate_dst (N := 12) rfl ?_); refine wpList_load_midw (by rfl) 24 _ rfl w.heap.size 2 rfl (nums .u8 d) _ HG.out Tryd.underlying24 rfl HI.out ?_) | ((with_reducible refine gate_dst (N := 14) rfl ?_); refine wpList_load_midw (by rfl) 24 _ rfl (w.heap.size + 1) 2 rfl (nums .u8 d') _ HG'.out Tryd.underlying24 rfl HI'.out ?_))
      go_ret
      rw [HR.out]
      exact ⟨rfl, HB.out⟩
  · have HR := Lib.hid (show newF v r d v' r' d' = false from decide_eq_false fun h => hv h.1)
    clear HQ
    go_enter Tryd.func21, Tryd.ntmps21
    go_wp2_with fail
    go_ret
    rw [HR.out]
    exact ⟨rfl, HB.out⟩
end Go.Proofs.YtipapffpfggmnaaDoor
