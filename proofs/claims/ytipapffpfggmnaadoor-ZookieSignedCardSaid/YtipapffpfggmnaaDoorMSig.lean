/-
  The plain law of a changed sign in a zookie's text: the code is another one. The law ZookieSigned, at arguments that are known.
-/
import Derived.Test.YtipapffpfggmnaaDoorMRef
import Derived.Test.YtipapffpfggmnaaDoorMLaw
import Derived.Laws.IdiomStrings
namespace PB
theorem groups_take (k : Nat) : ∀ (n m : Nat) (l : List Nat), n ≤ m → (groups k m l).take n = groups k n l
  | 0, _, _, _ => by simp [groups]
  | n + 1, 0, _, h => by omega
  | n + 1, m + 1, l, h => by rw [groups, groups, List.take_succ_cons, groups_take k n m _ (by omega)]
theorem groups_pre (k : Nat) : ∀ (n : Nat) (a b : List Nat), a.take (k * n) = b.take (k * n) → groups k n a = groups k n b
  | 0, _, _, _ => rfl
  | n + 1, a, b, h => by
    have e : k * (n + 1) = k + k * n := by rw [Nat.mul_succ]; omega
    rw [e] at h
    have h1 : a.take k = b.take k := by
      have := congrArg (List.take k) h
      rw [List.take_take, List.take_take, Nat.min_eq_left (by omega)] at this
      exact this
    have h2 : (a.drop k).take (k * n) = (b.drop k).take (k * n) := by
      have := congrArg (List.drop k) h
      rw [List.drop_take, List.drop_take, Nat.add_sub_cancel_left] at this
      exact this
    rw [groups, groups, h1, groups_pre k n _ _ h2]
theorem set_split (l : List Nat) (i v : Nat) (h : i < l.length) : l.set i v = l.take i ++ v :: l.drop (i + 1) := List.set_eq_take_append_cons_drop.trans (by rw [if_pos h])
theorem allBits_set (k : Nat) (l : List Nat) (i v : Nat) (h : i < l.length) : allBits k (l.set i v) = allBits k (l.take i) ++ (bits k v ++ allBits k (l.drop (i + 1))) := by
  rw [set_split l i v h, allBits_app, allBits_cons]
theorem allBits_at (k : Nat) (l : List Nat) (i : Nat) (h : i < l.length) : allBits k l = allBits k (l.take i) ++ (bits k l[i] ++ allBits k (l.drop (i + 1))) := by
  conv => lhs; rw [← List.take_append_drop i l, List.drop_eq_getElem_cons h]
  rw [allBits_app, allBits_cons]
theorem allBits_set_pre (k : Nat) (l : List Nat) (i v m : Nat) (h : i < l.length) (hm : m ≤ k * i) : (allBits k (l.set i v)).take m = (allBits k l).take m := by
  have hl : (allBits k (l.take i)).length = k * i := by rw [allBits_len, List.length_take, Nat.min_eq_left (by omega)]
  rw [allBits_set k l i v h, allBits_at k l i h, List.take_append_of_le_length (by omega), List.take_append_of_le_length (by omega)]
theorem allBits_set_post (k : Nat) (l : List Nat) (i v m : Nat) (h : i < l.length) (hm : k * (i + 1) ≤ m) : (allBits k (l.set i v)).drop m = (allBits k l).drop m := by
  have hl : (allBits k (l.take i)).length = k * i := by rw [allBits_len, List.length_take, Nat.min_eq_left (by omega)]
  have e : k * (i + 1) = k * i + k := Nat.mul_succ k i
  have key : ∀ u, (allBits k (l.take i) ++ (bits k u ++ allBits k (l.drop (i + 1)))).drop m = (allBits k (l.drop (i + 1))).drop (m - k * i - k) := fun u => by
    rw [List.drop_append, List.drop_eq_nil_of_le (by omega), List.nil_append, hl, List.drop_append, List.drop_eq_nil_of_le (by rw [bits_len]; omega), List.nil_append, bits_len]
  rw [allBits_set k l i v h, allBits_at k l i h, key, key]
end PB
namespace Go.Proofs.YtipapffpfggmnaaDoor
open Go.RowKit Go.Proofs.YtipapffpfggmnaaDoorW.PrintWords Go.Proofs.YtipapffpfggmnaaDoorW.PrintLast Go.Proofs.YtipapffpfggmnaaDoorW.PrintMore Go.Proofs.YtipapffpfggmnaaDoor.PRef
set_option linter.unusedVariables false
/-- A text of bytes with their code, one sign of the code changed: the error is Tag. -/
theorem verF_changed (key msg : List Int) (hm : Bytes msg) (i v : Nat) (hv : v < 64) (hi1 : PB.encN (msg.length + 32) ≤ i + 41) (hi2 : i + 2 ≤ PB.encN (msg.length + 32))
    (hne : ((signF key msg).data.toList.set i (sgn v)) ≠ (signF key msg).data.toList) :
    verF key ((signF key msg).data.toList.set i (sgn v)) = (zk0, .fault 12 (msg.length : Int)) := by
  obtain ⟨bn, hbn⟩ : ∃ bn, bn = (msg ++ macF key msg).map Int.toNat := ⟨_, rfl⟩
  have hb : Bytes (msg ++ macF key msg) := hm.append (shaF_bytes _)
  have hlt : ∀ x ∈ bn, x < 2 ^ 8 := by rw [hbn]; exact toNat_lt hb
  have hlen : bn.length = msg.length + 32 := by rw [hbn, List.length_map, List.length_append, macF_len]
  have hib : ints bn = msg ++ macF key msg := by rw [hbn]; exact ints_toNat hb
  have hS : (signF key msg).data.toList = (PB.enc6 bn).map sgn := by unfold signF; rw [← hbn]; rfl
  obtain ⟨V, hV⟩ : ∃ V, V = PB.enc6 bn := ⟨_, rfl⟩
  have hVl : V.length = PB.encN (msg.length + 32) := by rw [hV, PB.enc6_len, hlen]
  have hV64 : ∀ x ∈ V, x < 64 := by rw [hV]; exact PB.enc6_lt bn
  obtain ⟨V', hV'⟩ : ∃ V', V' = V.set i v := ⟨_, rfl⟩
  have hV'l : V'.length = PB.encN (msg.length + 32) := by rw [hV', List.length_set, hVl]
  have hV'64 : ∀ x ∈ V', x < 64 := by
    intro x hx
    rw [hV'] at hx
    rcases List.mem_or_eq_of_mem_set hx with h | h
    · exact hV64 x h
    · rw [h]; exact hv
  have hT : (signF key msg).data.toList.set i (sgn v) = V'.map sgn := by rw [hS, hV', hV, List.map_set]
  rw [hT]
  have hVV : V' ≠ V := by
    intro h
    apply hne
    rw [hT, h, hS, hV]
  have hil : i < V.length := by omega
  -- the text is good
  have hgood : ∀ c ∈ V'.map sgn, (sval c).isNone = false := by
    intro c hc
    obtain ⟨x, hx, rfl⟩ := List.mem_map.1 hc
    rw [sval_sgn ⟨x, hV'64 x hx⟩]; rfl
  have hvals : vals (V'.map sgn) = V' := by
    unfold vals
    rw [List.map_map]
    conv => rhs; rw [← List.map_id V']
    apply List.map_congr_left
    intro x hx
    show (sval (sgn x)).getD 0 = x
    rw [sval_sgn ⟨x, hV'64 x hx⟩]; rfl
  have htV : PB.Tight V := by rw [hV]; exact PB.tight_enc bn
  have hdN : PB.decN V.length = msg.length + 32 := by rw [hVl]; exact PB.decN_encN _
  have hdN' : PB.decN V'.length = msg.length + 32 := by rw [hV'l]; exact PB.decN_encN _
  have htV' : PB.Tight V' := by
    unfold PB.Tight at htV ⊢
    rw [hV'l, ← hVl]
    refine ⟨htV.1, ?_⟩
    rw [← htV.2, hdN, hV']
    exact PB.allBits_set_post 6 V i v _ hil (by unfold PB.encN at *; omega)
  have hd : decF (V'.map sgn) = (PB.dec8 V', -1) := by
    have h := decF_good (V'.map sgn) hgood
    rw [h, if_pos ((enc_back _ hgood).2 (by rw [hvals]; exact htV')), hvals]
  have hdl : (PB.dec8 V').length = msg.length + 32 := by rw [PB.dec8_len, hdN']
  have hpre : (PB.dec8 V').take msg.length = bn.take msg.length := by
    have h1 : PB.dec8 V = bn := by rw [hV]; exact PB.dec_enc hlt
    rw [← h1]
    unfold PB.dec8
    rw [PB.groups_take 8 _ _ _ (by omega), PB.groups_take 8 _ _ _ (by omega)]
    apply PB.groups_pre
    rw [hV']
    exact PB.allBits_set_pre 6 V i v _ hil (by unfold PB.encN at *; omega)
  have hpost : (PB.dec8 V').drop msg.length ≠ bn.drop msg.length := by
    intro h
    apply hVV
    have h1 : PB.dec8 V' = bn := by rw [← List.take_append_drop msg.length (PB.dec8 V'), hpre, h, List.take_append_drop]
    have h2 := (PB.enc_dec hV'64).2 htV'
    rw [h1] at h2
    rw [← h2, hV]
  have hmi : (ints (PB.dec8 V')).take msg.length = msg := by
    unfold ints
    rw [← List.map_take, hpre, List.map_take]
    show (ints bn).take msg.length = msg
    rw [hib, List.take_left]
  have hdi : macF key msg ≠ (ints (PB.dec8 V')).drop msg.length := by
    intro h
    apply hpost
    have h3 : (ints bn).drop msg.length = (ints (PB.dec8 V')).drop msg.length := by rw [hib, List.drop_left]; exact h
    unfold ints at h3
    rw [← List.map_drop, ← List.map_drop] at h3
    exact ((List.map_inj_right (fun a b hab => by omega)).1 h3).symm
  unfold verF
  rw [hd]
  simp only
  rw [if_neg (by omega), if_neg (by omega), hdl, show msg.length + 32 - 32 = msg.length by omega, hmi, if_neg hdi]
end Go.Proofs.YtipapffpfggmnaaDoor
namespace Go.Proofs.YtipapffpfggmnaaDoor
open Go.RowKit Go.Proofs.YtipapffpfggmnaaDoorW.PrintWords Go.Proofs.YtipapffpfggmnaaDoorW.PrintLast Go.Proofs.YtipapffpfggmnaaDoorW.PrintMore Go.Proofs.YtipapffpfggmnaaDoor.PRef
set_option linter.unusedVariables false
theorem signF_size (key msg : List Int) : (signF key msg).size = PB.encN (msg.length + 32) := by
  unfold signF
  rw [encF_size, List.length_map, List.length_append, macF_len]
theorem conv_str (S : ByteArray) (W : World) : ∃ cap w', (convert 9 22 (.string S)).run Tryd.prog W = .ok (.slice (some ⟨W.heap.size, 0, none⟩) S.size cap) w' ∧ Below W.heap.size W w' ∧
    (∀ j (h : j < S.data.toList.length), w'.cell? ⟨W.heap.size, j, none⟩ = some (.int .u8 ((S.data.toList[j]).toNat : Int))) ∧ (∀ j, j < S.size → w'.frozen? ⟨W.heap.size, j, none⟩ = false) := by
  refine ⟨_, _, run_bytes_of_string (P := Tryd.prog) W 9 22 5 S Tryd.underlying9 Tryd.underlying22 Tryd.underlying5, ?_, fun j h => ?_, fun j h => ?_⟩
  · exact (below_drew0 (Below.refl _ _)).alloc (Nat.le_refl _) _
  · have h1 := World.cell?_alloc_mark W.drew (bytesRow S (grownCap W S.size 0 5)) 5 ((bytesRow S (grownCap W S.size 0 5)).size, (bytesRow S (grownCap W S.size 0 5)).size + 1) j
    refine Eq.trans h1 ?_
    rw [bytesRow_at S _ j (by simpa using h)]
    simp
  · have h1 := World.frozen?_alloc_mark W.drew (bytesRow S (grownCap W S.size 0 5)) 5 (bytesRow S (grownCap W S.size 0 5)).size ((bytesRow S (grownCap W S.size 0 5)).size + 1) j
    refine Eq.trans h1 ?_
    have hsz : S.data.size ≤ (bytesRow S (grownCap W S.size 0 5)).size := by unfold bytesRow; simp
    have : S.size = S.data.size := rfl
    rw [decide_eq_false (by omega)]; rfl
set_option maxHeartbeats 2000000 in
set_option maxRecDepth 100000 in
theorem LSig_any (A : Option Addr) (c : Nat) (key : List Int) (B : Option Addr) (bc : Nat) (msg : List Int) (at0 x : Int) (w : World) (hC : Kd.C (Kd.int .u8) w A key.length key) (hc : key.length ≤ c) (hb : Bytes key) (hl : key.length ≤ 9223372036854775807) (hM : Kd.C (Kd.int .u8) w B msg.length msg) (hbc : msg.length ≤ bc) (hmb : Bytes msg) (hml : msg.length ≤ 9223372036854775807) (ha : 0 ≤ at0 ∧ at0 < 256) (hx : 0 ≤ x ∧ x < 256) (hg : LaidErr w) (hK : LaidK w) :
    Calls Tryd.prog 6 #[.slice A key.length c, .slice B msg.length bc, .int .u8 at0, .int .u8 x] w (BoolPost w true) := by
  have HC := Lib.hid hC
  have HM := Lib.hid hM
  have HG := Lib.hid hg
  have HK := Lib.hid hK
  have HBY := Lib.hid hb
  have HMB := Lib.hid hmb
  clear hC hg hK hM hb hmb
  go_enter Tryd.func6, Tryd.ntmps6
  go_wp2_with fail
  refine (awake_any w HG.out HK.out).mono ?_
  rintro e1 w1 ⟨rfl, hb1⟩
  have HB1 := Lib.hid hb1
  clear hb1
  by_cases h5 : (key.length : Int) > 200
  · go_wp2_with fail
    refine (awake_any w1 (HG.out.below HB1.out) (HK.out.below HB1.out)).mono ?_
    rintro e2 w2 ⟨rfl, hb2⟩
    have HB2 := Lib.hid (chain HB1.out hb2)
    clear hb2
    go_wp2_with fail
    go_ret
    exact ⟨rfl, HB2.out⟩
  by_cases h6 : (msg.length : Int) > 300
  · go_wp2_with fail
    refine (awake_any w1 (HG.out.below HB1.out) (HK.out.below HB1.out)).mono ?_
    rintro e2 w2 ⟨rfl, hb2⟩
    have HB2 := Lib.hid (chain HB1.out hb2)
    clear hb2
    go_wp2_with fail
    go_ret
    exact ⟨rfl, HB2.out⟩
  · have h5n : key.length ≤ 200 := by omega
    have h6n : msg.length ≤ 300 := by omega
    have HRS := Lib.hid (fun W (h : Below w.heap.size w W) => RSign_any A c key B bc msg W (Kd.C_below HC.out h) hc (by omega) HBY.out (Kd.C_below HM.out h) hbc (by omega) HMB.out)
    have HVS := Lib.hid (verF_sign key msg HMB.out)
    have HCH := Lib.hid (fun i v h1 h2 h3 h4 => verF_changed key msg HMB.out i v h1 h2 h3 h4)
    have hsz := signF_size key msg
    obtain ⟨S, hS⟩ : ∃ S, S = signF key msg := ⟨_, rfl⟩
    rw [← hS] at HRS HVS HCH hsz
    have hs450 : S.size ≤ 450 ∧ 43 ≤ S.size := by rw [hsz]; unfold PB.encN; omega
    have HSZ0 := Lib.hid hsz
    clear hS hsz
    go_wp2_with fail
    obtain ⟨v, r, d, er, hpf, hd, hT, hcase⟩ := parse_all msg HMB.out
    refine (HRS.out w1 HB1.out).mono ?_
    rintro e1b w1b ⟨rfl, hb1b⟩
    have HB1b := Lib.hid (chain HB1.out hb1b)
    clear hb1b
    go_wp2_with fail
    have hva := Ver_any A c key S w1b (Kd.C_below HC.out HB1b.out) hc (by omega) (by omega) (HK.out.below HB1b.out) (HG.out.below HB1b.out)
    rw [HVS.out, hpf] at hva
    refine hva.mono ?_
    rintro e2 w2 ⟨rfl, hb2⟩
    have HB2 := Lib.hid (chain HB1b.out hb2)
    clear hb2 hva
    simp only
    have HJ := Lib.hid (iz26 v r d hd)
    have HSZ := Lib.hid (show zk0.size = (zkC v r d).size by rw [zkC_size, hd]; rfl)
    have HOC := Lib.hid (oneCell_zk v r d)
    have hz : ∀ W, (binOp .neq 26 (.agg (zkC v r d)) (.agg (zkC v r d))).run Tryd.prog W = .ok (.bool false) W := fun W => by rw [zk_neq v r d v r d hd hd, decide_eq_true ⟨rfl, rfl, rfl⟩]; rfl
    have HPF := Lib.hid hpf
    have HT := Lib.hid hT
    clear hpf hd hT hcase
    generalize zkC v r d = Z at *
    go_wp2_with (first | ((with_reducible refine gate_dst (N := 9) rfl ?_); refine wpList_alloc_row rfl 26 rfl _ zz26 ?_; intro w3 hr hb hs; have HRa := Lib.hid hr; have HBa := Lib.hid hb; clear hr hb hs) | ((with_reducible refine gate_store (t := 26) (p := 9) rfl ?_); (refine wpList_store_row rfl 26 _ _ rfl _ Z rfl rfl 26 _ HRa.out HJ.out HSZ.out HOC.out ?_); refine stopHere ?_))
    refine ⟨?_⟩
    have HN3 := Lib.hid (setRow_heap _ _ _ Z _ _ HRa.out)
    have HBa2 := Lib.hid (below_setRow (chain HB2.out HBa.out) HB2.out.size Z)
    generalize w3.setRow w2.heap.size Z = wA at *
    generalize w2.heap.size = n3 at *
    go_wp2_with fail
    refine (RParse_any B bc msg wA (Kd.C_below HM.out HBa2.out) hbc (by omega) HMB.out).mono ?_
    rintro e4 w4 ⟨rfl, hb4⟩
    rw [HPF.out]
    simp only
    have HN3b := Lib.hid (blk_below HN3.out hb4)
    have HB4 := Lib.hid (chain HBa2.out hb4)
    clear hb4
    go_wp2_with (first | ((with_reducible refine gate_dst (N := 11) rfl ?_); refine wpList_alloc_row rfl 26 rfl _ zz26 ?_; intro w5 hr hb hs; have HRb := Lib.hid hr; have HBb := Lib.hid hb; clear hr hb hs) | ((with_reducible refine gate_store (t := 26) (p := 11) rfl ?_); (refine wpList_store_row rfl 26 _ _ rfl _ Z rfl rfl 26 _ HRb.out HJ.out HSZ.out HOC.out ?_); refine stopHere ?_))
    refine ⟨?_⟩
    have HN5 := Lib.hid (setRow_heap _ _ _ Z _ _ HRb.out)
    have HN3c := Lib.hid ((setRow_other w5 w4.heap.size n3 Z (Nat.ne_of_lt (blk_lt HN3b.out))).trans (blk_below HN3b.out HBb.out))
    have HBb2 := Lib.hid (below_setRow (chain HB4.out HBb.out) HB4.out.size Z)
    generalize w5.setRow w4.heap.size Z = wB at *
    generalize w4.heap.size = n5 at *
    go_wp2_with (first | ((with_reducible refine gate_dst (N := 45) rfl ?_); (refine wpList_load_roww (by rfl) 26 _ rfl _ rfl 26 _ (0, 0) _ HN3c.out Tryd.underlying26 rfl HJ.out ?_)) | ((with_reducible refine gate_dst (N := 46) rfl ?_); (refine wpList_load_roww (by rfl) 26 _ rfl _ rfl 26 _ (0, 0) _ HN5.out Tryd.underlying26 rfl HJ.out ?_)))
    refine (told_any er (eC er) (eA er) wB (HG.out.below HBb2.out)).mono ?_
    rintro e6 w6 ⟨rfl, hb6⟩
    rw [HT.out]
    have HB6 := Lib.hid (chain HBb2.out hb6)
    clear hb6
    go_wp2_with fail
    refine (HRS.out w6 HB6.out).mono ?_
    rintro e7 w7 ⟨rfl, hb7⟩
    have HB7 := Lib.hid (chain HB6.out hb7)
    clear hb7
    obtain ⟨cap, w8, hcv, hb8, hcell, hfr⟩ := conv_str S w7
    have HB8 := Lib.hid (chain HB7.out hb8)
    have HCE := Lib.hid hcell
    have HFR := Lib.hid hfr
    have ha0 := ha.1
    have ha1 := ha.2
    have hx0 := hx.1
    have hx1 := hx.2
    obtain ⟨i, hi⟩ : ∃ i : Nat, (i : Int) = (S.size : Int) - 2 - at0 % 40 := ⟨((S.size : Int) - 2 - at0 % 40).toNat, by omega⟩
    have hi1 : 0 ≤ (S.size : Int) - 2 - at0 % 40 := by omega
    have hi2 : (S.size : Int) - 2 - at0 % 40 < (S.size : Int) := by omega
    have hi3 : ((S.size : Int) - 2 - at0 % 40).toNat = i := by omega
    obtain ⟨v, hv⟩ : ∃ v : Nat, (v : Int) = x % 64 := ⟨(x % 64).toNat, by omega⟩
    have hv1 : 0 ≤ x % 64 := by omega
    have hv2 : x % 64 < 64 := by omega
    have hv3 : (x % 64).toNat = v := by omega
    have hv4 : v < 64 := by omega
    have hiS : i < S.data.toList.length := by show i < S.size; omega
    have q0 : w8.cell? ⟨w7.heap.size, i, none⟩ = some (.int .u8 ((S.data.toList[i]).toNat : Int)) := hcell i hiS
    have f0 := hfr i hiS
    generalize S.data.toList[i] = old at q0
    have HIS := Lib.hid hiS
    have HI := Lib.hid hi
    have HV := Lib.hid hv
    clear hb8 hcell hfr hi hv ha hx hiS
    have halph : ∀ h : v < (⟨#[65, 66, 67, 68, 69, 70, 71, 72, 73, 74, 75, 76, 77, 78, 79, 80, 81, 82, 83, 84, 85, 86, 87, 88, 89, 90, 97, 98, 99, 100, 101, 102, 103, 104, 105, 106, 107, 108, 109, 110, 111, 112, 113, 114, 115, 116, 117, 118, 119, 120, 121, 122, 48, 49, 50, 51, 52, 53, 54, 55, 56, 57, 45, 95]⟩ : ByteArray).size, (⟨#[65, 66, 67, 68, 69, 70, 71, 72, 73, 74, 75, 76, 77, 78, 79, 80, 81, 82, 83, 84, 85, 86, 87, 88, 89, 90, 97, 98, 99, 100, 101, 102, 103, 104, 105, 106, 107, 108, 109, 110, 111, 112, 113, 114, 115, 116, 117, 118, 119, 120, 121, 122, 48, 49, 50, 51, 52, 53, 54, 55, 56, 57, 45, 95]⟩ : ByteArray)[v]'h = sgn v := fun h => sgn_at v hv4
    go_wp2_with fail
    clear halph q0 f0 hcv hi1 hi2 hi3 hv1 hv2 hv3 ha0 ha1 hx0 hx1
    obtain ⟨T, hT⟩ : ∃ T, T = S.data.toList.set i (sgn v) := ⟨_, rfl⟩
    have hTl : T.length = S.size := by rw [hT, List.length_set]; rfl
    have hg7 : w7.heap.size < w8.heap.size := by
      have hq := HCE.out i HIS.out
      exact World.block_lt_of_cell? w8 ⟨w7.heap.size, i, none⟩ hq
    have hcT : ∀ j (h : j < T.length), (w8.setCell ⟨w7.heap.size, i, none⟩ (.int .u8 ((sgn v).toNat : Int))).cell? ⟨w7.heap.size, j, none⟩ = some (.int .u8 ((T[j]).toNat : Int)) := by
      intro j hj
      subst hT
      have hj2 : j < S.data.toList.length := by rw [List.length_set] at hj; exact hj
      rw [List.getElem_set]
      by_cases hji : i = j
      · subst hji
        rw [if_pos rfl]
        have := HCE.out i HIS.out
        exact World.cell?_setCell_same w8 _ _ this
      · rw [if_neg hji, World.cell?_setCell_other w8 _ _ _ (by intro h; injection h with _ h _; exact hji h)]
        exact HCE.out j hj2
    have HB9 := Lib.hid (HB8.out.setCell (p := ⟨w7.heap.size, i, none⟩) HB7.out.size (.int .u8 ((sgn v).toNat : Int)))
    have hs9 : w7.heap.size < (w8.setCell ⟨w7.heap.size, i, none⟩ (.int .u8 ((sgn v).toNat : Int))).heap.size := by
      rw [World.size_setCell]; exact hg7
    generalize w8.setCell ⟨w7.heap.size, i, none⟩ (.int .u8 ((sgn v).toNat : Int)) = w9 at *
    generalize w7.heap.size = g at *
    have hback : ∀ W, Below w9.heap.size w9 W → (convert 22 9 (.slice (some ⟨g, 0, none⟩) S.size cap)).run Tryd.prog W = .ok (.string ⟨T.toArray⟩) W := fun W hW => by
      have h := run_convert_bytes_back (P := Tryd.prog) W 22 9 5 ⟨g, 0, none⟩ cap T Tryd.underlying22 Tryd.underlying5 Tryd.underlying9 (fun j hj => by
        rw [add_plain]
        exact (hW.cell (p := ⟨g, j, none⟩) hs9).trans (hcT j hj))
      rw [hTl] at h
      exact h
    have hcb : ∀ x : Wx w9, (convert 22 9 (.slice (some ⟨g, 0, none⟩) S.size cap)).run Tryd.prog x.w = .ok (.string ⟨T.toArray⟩) x.w := fun x => hback x.w x.h
    have H3 := Lib.hid (fun x : Wx w9 => HRS.out x.w (HB9.out.trans (x.h.mono HB9.out.size)))
    have HBK := Lib.hid hback
    have HTL := Lib.hid hTl
    have HTT := Lib.hid hT
    clear hback hTl hcT hg7 hs9 HCE HFR hT
    by_cases hST : (⟨T.toArray⟩ : ByteArray) = S
    · rw [hST] at hcb
      clear hST
      refine wp_region_wx (by kernel_rfl) (by kernel_rfl) ?_; (repeat (first | go_big_quiet_skip | go_big_quiet_step ((go_at_call 20; with_reducible exact calls_wx (H3.out _))))); refine wpQuiet_nil ?_; intro w10 hw10; have hb10 := wx_bel hw10; clear hw10
      go_wp2_with fail
      go_ret
      exact ⟨rfl, HB9.out.trans (hb10.mono HB9.out.size)⟩
    · have hbe : ((⟨T.toArray⟩ : ByteArray).toList == S.toList) = false := by
        rcases hq : ((⟨T.toArray⟩ : ByteArray).toList == S.toList) with _ | _
        · rfl
        · exfalso
          apply hST
          have h1 := eq_of_beq hq
          rw [ByteArray.toList_eq, ByteArray.toList_eq] at h1
          have h2 := congrArg List.toArray h1
          simp only [Array.toArray_toList] at h2
          show (⟨T.toArray⟩ : ByteArray) = S
          rw [show S = ⟨S.data⟩ from rfl, ← h2]
      have hvc := HCH.out i v hv4 (by have := HSZ0.out; have := HI.out; omega) (by have := HSZ0.out; have := HI.out; omega) (by
        rw [← HTT.out]
        intro h
        apply hST
        rw [h])
      rw [← HTT.out] at hvc
      have HVC := Lib.hid hvc
      have hTs : (⟨T.toArray⟩ : ByteArray).size = S.size := by rw [← HTL.out]; rfl
      obtain ⟨U, hU⟩ : ∃ U : ByteArray, U = ⟨T.toArray⟩ := ⟨_, rfl⟩
      have HUD := Lib.hid (show U.data.toList = T by rw [hU])
      rw [← hU] at hcb hbe hTs HBK
      have HTS := Lib.hid hTs
      clear hST hvc hU hTs
      refine wp_region_wx (by kernel_rfl) (by kernel_rfl) ?_; (repeat (first | go_big_quiet_skip | go_big_quiet_step ((go_at_call 20; with_reducible exact calls_wx (H3.out _))))); refine wpQuiet_nil ?_; intro w10 hw10; have hb10 := wx_bel hw10; clear hw10
      have hcb2 := HBK.out w10 hb10
      have HB10 := Lib.hid (HB9.out.trans (hb10.mono HB9.out.size))
      clear hcb hb10
      go_wp2_with fail
      have hva := Ver_any A c key U w10 (Kd.C_below HC.out HB10.out) hc (by omega) (by rw [HTS.out]; omega) (HK.out.below HB10.out) (HG.out.below HB10.out)
      rw [HUD.out, HVC.out] at hva
      refine hva.mono ?_
      rintro e11 w11 ⟨rfl, hb11⟩
      have HB11 := Lib.hid (chain HB10.out hb11)
      simp only
      clear hb11 hva hcb2
      go_wp2_with (first | ((with_reducible refine gate_dst (N := 16) rfl ?_); refine wpList_alloc_row rfl 26 rfl _ zz26 ?_; intro w12 hr hb hs; have HRe := Lib.hid hr; have HBe := Lib.hid hb; clear hr hb hs) | ((with_reducible refine gate_store (t := 26) (p := 16) rfl ?_); (refine wpList_store_row rfl 26 _ _ rfl _ zk0 rfl rfl 26 _ HRe.out (iz26 0 0 zd0 rfl) rfl (oneCell_zk 0 0 zd0) ?_); refine stopHere ?_))
      refine ⟨?_⟩
      have HNE := Lib.hid (setRow_heap _ _ _ zk0 _ _ HRe.out)
      have HB12 := Lib.hid (below_setRow (chain HB11.out HBe.out) HB11.out.size zk0)
      generalize w12.setRow w11.heap.size zk0 = w13 at *
      generalize w11.heap.size = n16 at *
      go_wp2_with fail
      refine (told_any (.fault 12 (msg.length : Int)) 12 (msg.length : Int) w13 (HG.out.below HB12.out)).mono ?_
      rintro e14 w14 ⟨rfl, hb14⟩
      rw [told_fault 12 _ (by decide)]
      have HNE2 := Lib.hid (blk_below HNE.out hb14)
      have HB14 := Lib.hid (chain HB12.out hb14)
      have hz0 : ∀ W, (binOp .eql 26 (.agg zk0) (.agg (zkC 0 0 zd0))).run Tryd.prog W = .ok (.bool true) W := fun W => zk_eql 0 0 zd0 0 0 zd0 zd0_len zd0_len W
      clear hb14
      go_wp2_with (first | ((with_reducible refine gate_dst (N := 91) rfl ?_); (refine wpList_load_roww (by rfl) 26 _ rfl _ rfl 26 _ (0, 0) _ HNE2.out Tryd.underlying26 rfl (iz26 0 0 zd0 rfl) ?_)) | ((with_reducible refine gate_dst (N := 92) rfl ?_); refine wpList_build_any (by rfl) 26 _ rfl #[] (by simp only [List.map_toArray, List.map_nil]) _ build0 ?_))
      go_ret
      exact ⟨rfl, HB14.out⟩
end Go.Proofs.YtipapffpfggmnaaDoor
