/-
  vestryref01.Number computes numR. vestryref04.Encode computes encF. vestryref04.Decode computes decF. vestryref01.Put computes putF. vestryref22: Check, Parse. vestryref22.Verify. vestryref22.Sign. vestryref22.Payload, vestryref22.Mint. The plain laws of package zookie, the other way: what is parsed is a payload; what is verified is minted.
-/
import Derived.Test.YtipapffpfggmnaaDoorMZk
import Derived.Test.YtipapffpfggmnaaDoorMVer
import Derived.Deep.LoopGhost
import Derived.Test.YtipapffpfggmnaaDoorMAw
import Derived.Deep.RegionHeld3
namespace Go.Proofs.YtipapffpfggmnaaDoor
open Go.RowKit Go.Proofs.YtipapffpfggmnaaDoorW.PrintWords Go.Proofs.YtipapffpfggmnaaDoorW.PrintLast Go.Proofs.YtipapffpfggmnaaDoorW.PrintMore Go.Proofs.YtipapffpfggmnaaDoor.PRef
set_option linter.unusedVariables false
theorem number_sum (x g : Int) (i : Nat) (h0 : 0 ≤ x) (h1 : x < 2 ^ (7 * i)) (hi : i ≤ 9) (hg0 : 0 ≤ g) (hg1 : g < 256) (h9 : i = 9 → g ≤ 1) :
    IntKind.u64.wrap (x + (shl .u64 (IntKind.u64.wrap (Int.tmod g 128)) (IntKind.u64.wrap (wrap64 (7 * (i : Int)))))) = x + g % 128 * 2 ^ (7 * i) := by
  have ht : Int.tmod g 128 = g % 128 := Int.tmod_eq_emod_of_nonneg hg0
  have hw : wrap64 (7 * (i : Int)) = ((7 * i : Nat) : Int) := by unfold wrap64; omega
  have hm : min (7 * i) 64 = 7 * i := by omega
  have hc : ((2 : Int) ^ (7 * i)) = ((2 ^ (7 * i) : Nat) : Int) := by simp
  have hq0 := Nat.two_pow_pos (7 * i)
  have hq : g % 128 * ((2 ^ (7 * i) : Nat) : Int) + ((2 ^ (7 * i) : Nat) : Int) ≤ 2 ^ 64 := by
    rcases Nat.lt_or_ge i 9 with hl | hl
    · have : 2 ^ (7 * i) ≤ 2 ^ 56 := Nat.pow_le_pow_right (by decide) (by omega)
      have h2 : g % 128 * ((2 ^ (7 * i) : Nat) : Int) ≤ 127 * ((2 ^ (7 * i) : Nat) : Int) := Int.mul_le_mul_of_nonneg_right (by omega) (by omega)
      omega
    · have : i = 9 := by omega
      subst this
      have := h9 rfl
      have h2 : g % 128 * ((2 ^ (7 * 9) : Nat) : Int) ≤ 1 * ((2 ^ (7 * 9) : Nat) : Int) := Int.mul_le_mul_of_nonneg_right (by omega) (by omega)
      omega
  have hp0 : 0 ≤ g % 128 * ((2 ^ (7 * i) : Nat) : Int) := Int.mul_nonneg (by omega) (by omega)
  rw [hc] at h1 ⊢
  rw [hw, w64u ((7 * i : Nat) : Int) (by omega) (by omega), ht, w64u (g % 128) (by omega) (by omega)]
  unfold shl
  rw [Int.toNat_natCast, show IntKind.u64.bits = 64 from rfl, hm, hc, w64u _ hp0 (by omega), w64u _ (by omega) (by omega)]
theorem number_l0 (b : List Int) (at0 : Nat) (hb : Bytes b) (hl : b.length ≤ 100000000) (ha : at0 ≤ b.length) : ∀ (f i : Nat) (x : Int) (k : Nat), f + i = 10 → i ≤ 9 → 0 ≤ x → x < 2 ^ (7 * i) → 3 * f ≤ k →
    vestryref01_Number.l0 k b (at0 : Int) x (i : Int) = some ((numF f (b.drop at0) i x).1, ((at0 + (numF f (b.drop at0) i x).2.1 : Nat) : Int), (numF f (b.drop at0) i x).2.2)
  | 0, i, x, k, hf, hi, h0, h1, hk => by omega
  | f + 1, i, x, k, hf, hi, h0, h1, hk => by
    obtain ⟨k, rfl⟩ : ∃ m, k = m + 3 := ⟨k - 3, by omega⟩
    have hs : wrap64 ((at0 : Int) + (i : Int)) = ((at0 + i : Nat) : Int) := by unfold wrap64; omega
    rw [vestryref01_Number.l0, if_pos (by omega), hs, numF]
    by_cases hlen : b.length ≤ at0 + i
    · rw [if_pos (by omega), if_pos (by rw [List.length_drop]; omega)]
      rfl
    rw [if_neg (show ¬ ((at0 + i : Nat) : Int) ≥ (b.length : Int) by omega), if_pos (by omega), if_pos (by omega), if_neg (show ¬ (b.drop at0).length ≤ i by rw [List.length_drop]; omega), rd_drop]
    have hg := rd_byte hb (show at0 + i < b.length by omega)
    generalize rd b ((at0 + i : Nat) : Int) = g at *
    have hj2 : vestryref01_Number.j2 (k + 1) b (at0 : Int) x (i : Int) g false = if g < 128 then some (IntKind.u64.wrap (x + (shl .u64 (IntKind.u64.wrap (Int.tmod g 128)) (IntKind.u64.wrap (wrap64 (7 * (i : Int)))))), wrap64 (((at0 + i : Nat) : Int) + 1), 0) else vestryref01_Number.l0 k b (at0 : Int) (IntKind.u64.wrap (x + (shl .u64 (IntKind.u64.wrap (Int.tmod g 128)) (IntKind.u64.wrap (wrap64 (7 * (i : Int))))))) (wrap64 ((i : Int) + 1)) := by
      have hw : wrap64 (7 * (i : Int)) = ((7 * i : Nat) : Int) := by unfold wrap64; omega
      rw [vestryref01_Number.j2, if_neg (by simp), if_pos (by rw [hw, w64u _ (by omega) (by omega)]; omega), hs]
    by_cases h9 : i = 9 ∧ 1 < g
    · rw [if_pos (by omega), if_pos h9, vestryref01_Number.j1, decide_eq_true (by omega), if_pos rfl]
      rfl
    rw [if_neg h9]
    have h9' : i = 9 → g ≤ 1 := fun h => by
      rcases Int.lt_or_le 1 g with h2 | h2
      · exact absurd ⟨h, h2⟩ h9
      · exact h2
    have hj1 : ∀ c : Bool, c = false → vestryref01_Number.j1 (k + 2) b (at0 : Int) x (i : Int) g c = if (i : Int) > 0 then vestryref01_Number.j2 (k + 1) b (at0 : Int) x (i : Int) g (g == 0) else vestryref01_Number.j2 (k + 1) b (at0 : Int) x (i : Int) g false := fun c hc => by
      subst hc
      rw [vestryref01_Number.j1, if_neg (by simp)]
    have hstep : (if (i : Int) = 9 then vestryref01_Number.j1 (k + 2) b (at0 : Int) x (i : Int) g (decide (g > 1)) else vestryref01_Number.j1 (k + 2) b (at0 : Int) x (i : Int) g false) = if (i : Int) > 0 then vestryref01_Number.j2 (k + 1) b (at0 : Int) x (i : Int) g (g == 0) else vestryref01_Number.j2 (k + 1) b (at0 : Int) x (i : Int) g false := by
      by_cases hi9 : (i : Int) = 9
      · rw [if_pos hi9]; exact hj1 _ (decide_eq_false (by have := h9' (by omega); omega))
      · rw [if_neg hi9]; exact hj1 _ rfl
    rw [hstep]
    by_cases hz : 0 < i ∧ g = 0
    · rw [if_pos (by omega), if_pos hz, show (g == 0) = true from beq_iff_eq.2 hz.2, vestryref01_Number.j2, if_pos rfl]
      rfl
    rw [if_neg hz]
    have hz2 : (if (i : Int) > 0 then vestryref01_Number.j2 (k + 1) b (at0 : Int) x (i : Int) g (g == 0) else vestryref01_Number.j2 (k + 1) b (at0 : Int) x (i : Int) g false) = vestryref01_Number.j2 (k + 1) b (at0 : Int) x (i : Int) g false := by
      by_cases hi0 : (i : Int) > 0
      · rw [if_pos hi0, show (g == 0) = false from by
          rw [beq_eq_false_iff_ne]; intro h; exact hz ⟨by omega, h⟩]
      · rw [if_neg hi0]
    rw [hz2, hj2, number_sum x g i h0 h1 hi hg.1 hg.2 h9']
    by_cases hg8 : g < 128
    · rw [if_pos hg8, if_pos hg8, show wrap64 (((at0 + i : Nat) : Int) + 1) = ((at0 + (i + 1) : Nat) : Int) by unfold wrap64; omega]
    · rw [if_neg hg8, if_neg hg8, show wrap64 ((i : Int) + 1) = ((i + 1 : Nat) : Int) by unfold wrap64; omega]
      have hn := numNext x g i h0 h1 hg.1
      have hi8 : i ≤ 8 := by
        rcases Nat.lt_or_ge i 9 with h | h
        · omega
        · have := h9' (by omega); omega
      exact number_l0 b at0 hb hl ha f (i + 1) _ k (by omega) (by omega) hn.1 hn.2 (by omega)
theorem number_f (b : List Int) (at0 : Nat) (hb : Bytes b) (hl : b.length ≤ 100000000) (ha : at0 ≤ b.length) :
    vestryref01_Number.f 30 b (at0 : Int) = some ((numR (b.drop at0)).1, ((at0 + (numR (b.drop at0)).2.1 : Nat) : Int), (numR (b.drop at0)).2.2) :=
  number_l0 b at0 hb hl ha 10 0 0 30 rfl (by omega) (by omega) (by decide) (by omega)
theorem RNumber_any (A : Option Addr) (c : Nat) (b : List Int) (at0 : Nat) (w : World) (hC : Kd.C (Kd.int .u8) w A b.length b) (hc : b.length ≤ c) (hb : Bytes b) (hl : b.length ≤ 100000000) (ha : at0 ≤ b.length) :
    Calls Tryd.prog 38 #[.slice A b.length c, .int .i64 (at0 : Int)] w fun e w' => e = .returned (.tuple #[.int .u64 (numR (b.drop at0)).1, .int .i64 ((at0 + (numR (b.drop at0)).2.1 : Nat) : Int), .int .i64 (numR (b.drop at0)).2.2]) ∧ Drawn0 w w' :=
  vestryref01_Number.calls 30 A c b (at0 : Int) _ _ _ w hC hc (number_f b at0 hb hl ha)
end Go.Proofs.YtipapffpfggmnaaDoor
namespace Go.Proofs.YtipapffpfggmnaaDoor
open Go.RowKit Go.Proofs.YtipapffpfggmnaaDoorW.PrintWords Go.Proofs.YtipapffpfggmnaaDoorW.PrintLast Go.Proofs.YtipapffpfggmnaaDoorW.PrintMore Go.Proofs.YtipapffpfggmnaaDoor.PRef
set_option linter.unusedVariables false
theorem ints_one (x : Nat) : ints [x] = [(x : Int)] := rfl
theorem bits_shift (v j : Nat) : PB.bits (8 - (j + 1)) (v / 2 ^ (j + 1)) ++ [v / 2 ^ j % 2] = PB.bits (8 - (j + 1) + 1) (v / 2 ^ j) := by
  rw [PB.bits, Nat.div_div_eq_div_mul, Nat.pow_succ]
theorem enc_bit (v j : Nat) (hj : j < 8) (hv : v < 256) : Int.tmod (wrap64 (shr .u8 (v : Int) (IntKind.u64.wrap (j : Int)))) 2 = ((v / 2 ^ j % 2 : Nat) : Int) := by
  rw [w64u (j : Int) (by omega) (by omega)]
  unfold shr
  rw [Int.toNat_natCast, show min j IntKind.u8.bits = j from Nat.min_eq_left (by show j ≤ 8; omega)]
  have hc : ((2 : Int) ^ j) = ((2 ^ j : Nat) : Int) := by simp
  rw [hc, show ((v : Int) / ((2 ^ j : Nat) : Int)) = ((v / 2 ^ j : Nat) : Int) from rfl]
  have : v / 2 ^ j ≤ v := Nat.div_le_self _ _
  generalize v / 2 ^ j = q at *
  rw [w64 (by omega) (by omega)]
  exact tmod_nat _ 2
theorem enc_l1 (bn : List Nat) (B : List Nat) (i : Nat) (hi : i < bn.length) (hv : bn[i] < 256) (hB : B.length ≤ 1000000000) (hi2 : i ≤ 1000000000) : ∀ (j k : Nat), j ≤ 8 →
    vestryref04_Encode.l1 (k + j + 1) (ints bn) (ints (B ++ PB.bits (8 - j) (bn[i] / 2 ^ j))) (i : Int) ((j : Int) - 1) = vestryref04_Encode.l0 k (ints bn) (ints (B ++ PB.bits 8 bn[i])) ((i + 1 : Nat) : Int)
  | 0, k, _ => by
    rw [vestryref04_Encode.l1, if_neg (by omega), w64 (by omega) (by omega)]
    simp only [Nat.pow_zero, Nat.div_one, Nat.sub_zero]
    rfl
  | j + 1, k, h => by
    have e : k + (j + 1) + 1 = (k + j + 1) + 1 := by omega
    have hj1 : ((j + 1 : Nat) : Int) - 1 = (j : Int) := by omega
    have hlen : (ints (B ++ PB.bits (8 - (j + 1)) (bn[i] / 2 ^ (j + 1)))).length < 17592186044416 := by
      rw [ints_len, List.length_append, PB.bits_len]; omega
    rw [e, vestryref04_Encode.l1, hj1, if_pos (by omega), if_pos (by omega), if_pos (by rw [ints_len]; omega), if_pos (by rw [w64u (j : Int) (by omega) (by omega)]; omega), if_pos hlen, rd_map bn i hi, enc_bit _ j (by omega) hv, w64 (by omega) (by omega)]
    have e2 : ints (B ++ PB.bits (8 - (j + 1)) (bn[i] / 2 ^ (j + 1))) ++ [((bn[i] / 2 ^ j % 2 : Nat) : Int)] = ints (B ++ PB.bits (8 - j) (bn[i] / 2 ^ j)) := by
      rw [← ints_one, ← ints_app, List.append_assoc, bits_shift]
      congr 3
      omega
    rw [e2]
    exact enc_l1 bn B i hi hv hB hi2 j k (by omega)
theorem enc_l0 (bn : List Nat) (hv : ∀ x ∈ bn, x < 2 ^ 8) (hl : bn.length ≤ 100000000) : ∀ (n i k : Nat), i + n = bn.length →
    vestryref04_Encode.l0 (k + 10 * n + 1) (ints bn) (ints (PB.allBits 8 (bn.take i))) (i : Int) = vestryref04_Encode.l2 k (ints (PB.allBits 8 bn))
  | 0, i, k, h => by
    rw [vestryref04_Encode.l0, if_neg (by rw [ints_len]; omega), List.take_of_length_le (by omega)]
  | n + 1, i, k, h => by
    have hi : i < bn.length := by omega
    have e : k + 10 * (n + 1) + 1 = (k + 10 * n + 1 + 8 + 1) + 1 := by omega
    have hvi := hv bn[i] (List.getElem_mem hi)
    have hBl : (PB.allBits 8 (bn.take i)).length ≤ 1000000000 := by rw [PB.allBits_len, List.length_take]; omega
    rw [e, vestryref04_Encode.l0, if_pos (by rw [ints_len]; omega)]
    have h1 := enc_l1 bn (PB.allBits 8 (bn.take i)) i hi hvi hBl (by omega) 8 (k + 10 * n + 1) (Nat.le_refl _)
    rw [show PB.allBits 8 (bn.take i) ++ PB.bits (8 - 8) (bn[i] / 2 ^ 8) = PB.allBits 8 (bn.take i) from List.append_nil _] at h1
    refine Eq.trans h1 ?_
    have e2 : PB.allBits 8 (bn.take i) ++ PB.bits 8 bn[i] = PB.allBits 8 (bn.take (i + 1)) := by
      rw [List.take_succ_eq_append_getElem hi, PB.allBits_app]
      congr 1
    rw [e2]
    exact enc_l0 bn hv hl n (i + 1) k (by omega)
theorem enc_l2 : ∀ (p : Nat) (l : List Nat) (k : Nat), l.length + p ≤ 1000000000 → (∀ q, q < p → (l.length + q) % 6 ≠ 0) → (l.length + p) % 6 = 0 →
    vestryref04_Encode.l2 (k + p + 1) (ints l) = vestryref04_Encode.l3 k (ints (l ++ List.replicate p 0)) ([] : List Int) 0
  | 0, l, k, hl, _, h => by
    rw [vestryref04_Encode.l2, if_pos (by rw [ints_len]; omega), List.replicate_zero, List.append_nil]
  | p + 1, l, k, hl, hq, h => by
    have e : k + (p + 1) + 1 = (k + p + 1) + 1 := by omega
    have h0 := hq 0 (by omega)
    rw [e, vestryref04_Encode.l2, if_neg (by rw [ints_len]; omega), if_pos (by rw [ints_len]; omega)]
    have e2 : ints l ++ [(0 : Int)] = ints (l ++ [0]) := by rw [ints_app]; rfl
    have e3 : l ++ List.replicate (p + 1) 0 = (l ++ [0]) ++ List.replicate p 0 := by rw [List.replicate_succ, List.append_assoc]; rfl
    rw [e2, e3]
    refine enc_l2 p (l ++ [0]) k (by rw [List.length_append]; simp only [List.length_singleton]; omega) (fun q hqp => ?_) (by rw [List.length_append]; simp only [List.length_singleton]; omega)
    have := hq (q + 1) (by omega)
    rw [List.length_append]; simp only [List.length_singleton]
    omega
theorem take_val (l : List Nat) (x c : Nat) (h : x + c < l.length) : PB.val ((l.drop x).take (c + 1)) = 2 * PB.val ((l.drop x).take c) + l[x + c] := by
  rw [List.take_succ_eq_append_getElem (by rw [List.length_drop]; omega), PB.val_snoc, List.getElem_drop]
set_option maxRecDepth 100000 in
theorem alpha_fin : ∀ v : Fin 64, bt (⟨#[65, 66, 67, 68, 69, 70, 71, 72, 73, 74, 75, 76, 77, 78, 79, 80, 81, 82, 83, 84, 85, 86, 87, 88, 89, 90, 97, 98, 99, 100, 101, 102, 103, 104, 105, 106, 107, 108, 109, 110, 111, 112, 113, 114, 115, 116, 117, 118, 119, 120, 121, 122, 48, 49, 50, 51, 52, 53, 54, 55, 56, 57, 45, 95]⟩ : ByteArray) ((v.val : Nat) : Int) = ((sgn v.val).toNat : Int) := by decide
theorem alpha_bt (v : Nat) (h : v < 64) : bt (⟨#[65, 66, 67, 68, 69, 70, 71, 72, 73, 74, 75, 76, 77, 78, 79, 80, 81, 82, 83, 84, 85, 86, 87, 88, 89, 90, 97, 98, 99, 100, 101, 102, 103, 104, 105, 106, 107, 108, 109, 110, 111, 112, 113, 114, 115, 116, 117, 118, 119, 120, 121, 122, 48, 49, 50, 51, 52, 53, 54, 55, 56, 57, 45, 95]⟩ : ByteArray) (v : Int) = ((sgn v).toNat : Int) := alpha_fin ⟨v, h⟩
theorem enc_l4 (L : List Nat) (hb : PB.Bit L) (out : List Int) (x : Nat) (hx : x + 6 ≤ L.length) (hl : L.length ≤ 1000000000) (ho : out.length ≤ 1000000000) : ∀ (c j k : Nat), j + c = 6 →
    vestryref04_Encode.l4 (k + c + 1) (ints L) out (x : Int) (PB.val ((L.drop x).take j) : Int) (j : Int) = vestryref04_Encode.l3 k (ints L) (out ++ [((sgn (PB.val ((L.drop x).take 6))).toNat : Int)]) ((x + 6 : Nat) : Int)
  | 0, j, k, h => by
    have hj : j = 6 := by omega
    subst hj
    have hv : PB.val ((L.drop x).take 6) < 64 := by
      have := PB.val_lt ((hb.drop x).take 6)
      rw [List.length_take, List.length_drop, Nat.min_eq_left (by omega)] at this
      exact this
    rw [vestryref04_Encode.l4, if_neg (by omega)]
    unfold vestryref04_alphabet.f
    rw [Option.bind_some, if_pos (by omega), if_pos (by show _ < ((64 : Nat) : Int); omega), if_pos (by omega), alpha_bt _ hv, w64 (by omega) (by omega)]
    rfl
  | c + 1, j, k, h => by
    have e : k + (c + 1) + 1 = (k + c + 1) + 1 := by omega
    have hxj : wrap64 ((x : Int) + (j : Int)) = ((x + j : Nat) : Int) := by unfold wrap64; omega
    have hlt : x + j < L.length := by omega
    have hbit := hb L[x + j] (List.getElem_mem hlt)
    have hv : PB.val ((L.drop x).take j) < 64 := by
      have := PB.val_lt ((hb.drop x).take j)
      rw [List.length_take, List.length_drop, Nat.min_eq_left (by omega)] at this
      exact Nat.lt_of_lt_of_le this (Nat.pow_le_pow_right (by decide) (show j ≤ 6 by omega))
    rw [e, vestryref04_Encode.l4, if_pos (by omega), hxj, if_pos (by omega), if_pos (by rw [ints_len]; omega), rd_map L (x + j) hlt, w64 (x := 2 * _) (by omega) (by omega), w64 (by omega) (by omega), w64 (by omega) (by omega)]
    have e2 : (2 * (PB.val ((L.drop x).take j) : Int) + ((L[x + j] : Nat) : Int)) = ((PB.val ((L.drop x).take (j + 1)) : Nat) : Int) := by rw [take_val L x j hlt]; omega
    rw [e2, show (j : Int) + 1 = ((j + 1 : Nat) : Int) from rfl]
    exact enc_l4 L hb out x hx hl ho c (j + 1) k (by omega)
theorem enc_l3 (L : List Nat) (hb : PB.Bit L) (G : Nat) (hG : L.length = 6 * G) (hl : L.length ≤ 1000000000) : ∀ (n g : Nat), g + n = G →
    vestryref04_Encode.l3 (8 * n + 1) (ints L) ((PB.groups 6 g L).map fun v => ((sgn v).toNat : Int)) ((6 * g : Nat) : Int) = some (strOfNums ((PB.groups 6 G L).map fun v => ((sgn v).toNat : Int)))
  | 0, g, h => by
    have hg : g = G := by omega
    subst hg
    rw [vestryref04_Encode.l3, if_neg (by rw [ints_len]; omega)]
  | n + 1, g, h => by
    have e : 8 * (n + 1) + 1 = (8 * n + 1 + 6 + 1) + 1 := by omega
    rw [e, vestryref04_Encode.l3, if_pos (by rw [ints_len]; omega)]
    have h4 := enc_l4 L hb ((PB.groups 6 g L).map fun v => ((sgn v).toNat : Int)) (6 * g) (by omega) hl (by rw [List.length_map, PB.groups_len]; omega) 6 0 (8 * n + 1) rfl
    refine Eq.trans h4 ?_
    have e2 : ((PB.groups 6 g L).map fun v => ((sgn v).toNat : Int)) ++ [((sgn (PB.val ((L.drop (6 * g)).take 6))).toNat : Int)] = (PB.groups 6 (g + 1) L).map fun v => ((sgn v).toNat : Int) := by
      rw [PB.groups_snoc, List.map_append]; rfl
    rw [e2, show 6 * g + 6 = 6 * (g + 1) by omega]
    exact enc_l3 L hb G hG hl n (g + 1) (by omega)
theorem encode_f (bn : List Nat) (hv : ∀ x ∈ bn, x < 2 ^ 8) (hl : bn.length ≤ 100000000) : ∃ k, vestryref04_Encode.f k (ints bn) = some (encF bn) := by
  obtain ⟨p, hp⟩ : ∃ p, p = 6 * PB.encN bn.length - 8 * bn.length := ⟨_, rfl⟩
  have hL : (PB.allBits 8 bn ++ List.replicate p 0).length = 6 * PB.encN bn.length := by
    rw [List.length_append, PB.allBits_len, List.length_replicate]; unfold PB.encN at *; omega
  have hb : PB.Bit (PB.allBits 8 bn ++ List.replicate p 0) := (PB.allBits_bit 8 bn).app (PB.zeros_bit p)
  have h3 := enc_l3 _ hb (PB.encN bn.length) hL (by rw [hL]; unfold PB.encN; omega) (PB.encN bn.length) 0 (by omega)
  have h2 := enc_l2 p (PB.allBits 8 bn) (8 * PB.encN bn.length + 1) (by rw [PB.allBits_len]; unfold PB.encN at *; omega) (fun q hq => by rw [PB.allBits_len]; unfold PB.encN at *; omega) (by rw [PB.allBits_len]; unfold PB.encN at *; omega)
  have h0 := enc_l0 bn hv hl bn.length 0 ((8 * PB.encN bn.length + 1) + p + 1) (by omega)
  refine ⟨_, h0.trans (h2.trans (h3.trans ?_))⟩
  congr 1
  unfold encF strOfNums PB.enc6
  rw [← hp, List.map_map]
  congr 2
  apply List.map_congr_left
  intro v _
  show UInt8.ofNat (((sgn v).toNat : Int)).toNat = sgn v
  rw [Int.toNat_natCast]
  simp
theorem REnc_any (A : Option Addr) (c : Nat) (bn : List Nat) (w : World) (hC : Kd.C (Kd.int .u8) w A bn.length (ints bn)) (hc : bn.length ≤ c) (hv : ∀ x ∈ bn, x < 2 ^ 8) (hl : bn.length ≤ 100000000) :
    Calls Tryd.prog 43 #[.slice A bn.length c] w fun e w' => e = .returned (.string (encF bn)) ∧ Below w.heap.size w w' := by
  obtain ⟨k, hk⟩ := encode_f bn hv hl
  have h := vestryref04_Encode.calls k A c (ints bn) _ w (by rw [ints_len]; exact hC) (by rw [ints_len]; exact hc) hk
  rw [ints_len] at h
  exact h
end Go.Proofs.YtipapffpfggmnaaDoor
namespace Go.Proofs.YtipapffpfggmnaaDoor
open Go.RowKit Go.Proofs.YtipapffpfggmnaaDoorW.PrintWords Go.Proofs.YtipapffpfggmnaaDoorW.PrintLast Go.Proofs.YtipapffpfggmnaaDoorW.PrintMore Go.Proofs.YtipapffpfggmnaaDoor.PRef
set_option linter.unusedVariables false
theorem leo_k {α : Type} (f : Nat → Option α) (h : ∀ k, LeO (f k) (f (k + 1))) {m : Nat} {r : α} (hm : f m = some r) : ∀ d, f (m + d) = some r
  | 0 => hm
  | d + 1 => h (m + d) r (leo_k f h hm d)
theorem value_l0 (c : UInt8) (T : ByteArray) (hT : T.size ≤ 1000) : ∀ (n j : Nat), j + n = T.size → vestryref04_Value.l0 (n + 1) (c.toNat : Int) T (j : Int) = some (if Lib.indexByte (T.data.toList.drop j) c = -1 then -1 else (j : Int) + Lib.indexByte (T.data.toList.drop j) c)
  | 0, j, h => by
    have hl : T.data.toList.length = T.size := rfl
    rw [vestryref04_Value.l0, if_neg (by omega), List.drop_eq_nil_of_le (by omega)]
    rfl
  | n + 1, j, h => by
    have hl : T.data.toList.length = T.size := rfl
    have hj : j < T.data.toList.length := by omega
    have hjs : j < T.size := by omega
    have hb : bt T (j : Int) = ((T.data.toList[j]).toNat : Int) := by
      unfold bt
      simp only [Int.toNat_natCast]
      rw [dif_pos hjs]; rfl
    rw [vestryref04_Value.l0, if_pos (by omega), if_pos (by omega), hb, List.drop_eq_getElem_cons hj, Lib.indexByte]
    by_cases hc : T.data.toList[j] = c
    · rw [if_pos (by rw [hc]), if_pos (beq_iff_eq.2 hc), if_neg (by omega), Int.add_zero]
    · have hc2 : ¬ ((T.data.toList[j]).toNat : Int) = (c.toNat : Int) := fun h => hc (UInt8.toNat_inj.1 (by omega))
      rw [if_neg hc2, w64 (by omega) (by omega), show (j : Int) + 1 = ((j + 1 : Nat) : Int) from rfl, value_l0 c T hT n (j + 1) (by omega)]
      congr 1
      have hcb : ¬ ((T.data.toList[j] == c) = true) := fun h => hc (beq_iff_eq.1 h)
      rw [if_neg hcb]
      have hge := Lib.indexByte_ge (T.data.toList.drop (j + 1)) c
      generalize Lib.indexByte (T.data.toList.drop (j + 1)) c = m at *
      by_cases h1 : m = -1
      · subst h1; rfl
      · have h2 : ¬ ((m == -1) = true) := fun h => h1 (beq_iff_eq.1 h)
        rw [if_neg h1, if_neg h2, if_neg (by omega)]; omega
theorem value_65 (c : UInt8) : vestryref04_Value.f 65 (c.toNat : Int) = some (Lib.indexByte abc c) := by
  unfold vestryref04_Value.f vestryref04_alphabet.f
  rw [Option.bind_some]
  have h := value_l0 c (⟨#[65, 66, 67, 68, 69, 70, 71, 72, 73, 74, 75, 76, 77, 78, 79, 80, 81, 82, 83, 84, 85, 86, 87, 88, 89, 90, 97, 98, 99, 100, 101, 102, 103, 104, 105, 106, 107, 108, 109, 110, 111, 112, 113, 114, 115, 116, 117, 118, 119, 120, 121, 122, 48, 49, 50, 51, 52, 53, 54, 55, 56, 57, 45, 95]⟩ : ByteArray) (by decide) 64 0 rfl
  refine Eq.trans h ?_
  congr 1
  have e : (⟨#[65, 66, 67, 68, 69, 70, 71, 72, 73, 74, 75, 76, 77, 78, 79, 80, 81, 82, 83, 84, 85, 86, 87, 88, 89, 90, 97, 98, 99, 100, 101, 102, 103, 104, 105, 106, 107, 108, 109, 110, 111, 112, 113, 114, 115, 116, 117, 118, 119, 120, 121, 122, 48, 49, 50, 51, 52, 53, 54, 55, 56, 57, 45, 95]⟩ : ByteArray).data.toList.drop 0 = abc := rfl
  rw [e]
  split
  · rename_i h; exact h.symm
  · omega
theorem value_f (c : UInt8) (k : Nat) (hk : 65 ≤ k) : vestryref04_Value.f k (c.toNat : Int) = some (Lib.indexByte abc c) := by
  have h := value_65 c
  obtain ⟨d, rfl⟩ : ∃ d, k = 65 + d := ⟨k - 65, by omega⟩
  exact leo_k (fun k => vestryref04_Value.f k (c.toNat : Int)) (fun k => vestryref04_Value.mono _ k) h d
theorem bits_shiftN (n v j : Nat) : PB.bits n (v / 2 ^ (j + 1)) ++ [v / 2 ^ j % 2] = PB.bits (n + 1) (v / 2 ^ j) := by
  rw [PB.bits, Nat.div_div_eq_div_mul, Nat.pow_succ]
theorem dec_bit (v j : Nat) (hj : j < 8) (hv : v < 256) : Int.tmod (shr .i64 (v : Int) (IntKind.u64.wrap (j : Int))) 2 = ((v / 2 ^ j % 2 : Nat) : Int) := by
  rw [w64u (j : Int) (by omega) (by omega), shr64 _ j (by omega)]
  have hc : ((2 : Int) ^ j) = ((2 ^ j : Nat) : Int) := by simp
  rw [hc, show ((v : Int) / ((2 ^ j : Nat) : Int)) = ((v / 2 ^ j : Nat) : Int) from rfl]
  exact tmod_nat _ 2
theorem dec_l1 (s : ByteArray) (B : List Nat) (v i : Nat) (hv : v < 64) (hB : B.length ≤ 1000000000) (hi2 : i ≤ 1000000000) : ∀ (j k : Nat), j ≤ 6 →
    vestryref04_Decode.l1 (k + j + 1) s (ints (B ++ PB.bits (6 - j) (v / 2 ^ j))) (i : Int) (v : Int) ((j : Int) - 1) = vestryref04_Decode.l0 k s (ints (B ++ PB.bits 6 v)) ((i + 1 : Nat) : Int)
  | 0, k, _ => by
    rw [vestryref04_Decode.l1, if_neg (by omega), w64 (by omega) (by omega)]
    simp only [Nat.pow_zero, Nat.div_one, Nat.sub_zero]
    rfl
  | j + 1, k, h => by
    have e : k + (j + 1) + 1 = (k + j + 1) + 1 := by omega
    have hj1 : ((j + 1 : Nat) : Int) - 1 = (j : Int) := by omega
    have hlen : (ints (B ++ PB.bits (6 - (j + 1)) (v / 2 ^ (j + 1)))).length < 17592186044416 := by
      rw [ints_len, List.length_append, PB.bits_len]; omega
    rw [e, vestryref04_Decode.l1, hj1, if_pos (by omega), if_pos (by rw [w64u (j : Int) (by omega) (by omega)]; omega), if_pos hlen, dec_bit _ j (by omega) (by omega), w64 (by omega) (by omega)]
    have e2 : ints (B ++ PB.bits (6 - (j + 1)) (v / 2 ^ (j + 1))) ++ [((v / 2 ^ j % 2 : Nat) : Int)] = ints (B ++ PB.bits (6 - j) (v / 2 ^ j)) := by
      rw [← ints_one, ← ints_app, List.append_assoc, bits_shiftN]
      congr 3
      omega
    rw [e2]
    exact dec_l1 s B v i hv hB hi2 j k (by omega)
theorem bt_list (s : ByteArray) (i : Nat) (h : i < s.data.toList.length) : bt s (i : Int) = ((s.data.toList[i]).toNat : Int) := by
  have hjs : i < s.size := h
  unfold bt
  simp only [Int.toNat_natCast]
  rw [dif_pos hjs]; rfl
/-- The good signs in front are read. -/
theorem dec_l0 (s : ByteArray) (hl : s.size ≤ 100000000) (e : Nat) (he : e ≤ s.data.toList.length) (hg : ∀ i (h : i < e), (sval (s.data.toList[i]'(by omega))).isNone = false) : ∀ (n i k : Nat), i + n = e → 65 ≤ k →
    vestryref04_Decode.l0 (k + 8 * n) s (ints (PB.allBits 6 ((vals s.data.toList).take i))) (i : Int) = vestryref04_Decode.l0 k s (ints (PB.allBits 6 ((vals s.data.toList).take e))) (e : Int)
  | 0, i, k, h, hk => by
    have : i = e := by omega
    subst this; rfl
  | n + 1, i, k, h, hk => by
    have hsl : s.data.toList.length = s.size := rfl
    have hi : i < s.data.toList.length := by omega
    have e2 : k + 8 * (n + 1) = (k + 8 * n + 6 + 1) + 1 := by omega
    have hgi := hg i (by omega)
    obtain ⟨v, hv⟩ : ∃ v, sval s.data.toList[i] = some v := by
      rcases h2 : sval s.data.toList[i] with _ | v
      · rw [h2] at hgi; cases hgi
      · exact ⟨v, rfl⟩
    obtain ⟨hv64, -, hx⟩ := sval_some hv
    have hBl : (PB.allBits 6 ((vals s.data.toList).take i)).length ≤ 1000000000 := by rw [PB.allBits_len, List.length_take, vals_len]; omega
    rw [e2, vestryref04_Decode.l0, if_pos (by omega), if_pos (by omega), bt_list s i hi, value_f _ _ (by omega), Option.bind_some, hx, if_neg (by omega)]
    have h1 := dec_l1 s (PB.allBits 6 ((vals s.data.toList).take i)) v i hv64 hBl (by omega) 6 (k + 8 * n) (Nat.le_refl _)
    rw [show PB.allBits 6 ((vals s.data.toList).take i) ++ PB.bits (6 - 6) (v / 2 ^ 6) = PB.allBits 6 ((vals s.data.toList).take i) from List.append_nil _] at h1
    refine Eq.trans h1 ?_
    have e3 : PB.allBits 6 ((vals s.data.toList).take i) ++ PB.bits 6 v = PB.allBits 6 ((vals s.data.toList).take (i + 1)) := by
      have hvl : i < (vals s.data.toList).length := by rw [vals_len]; exact hi
      rw [List.take_succ_eq_append_getElem hvl, PB.allBits_app, vals_at s.data.toList i hi hv]
      congr 1
    rw [e3]
    exact dec_l0 s hl e he hg n (i + 1) k (by omega) hk
theorem sum_zero : ∀ {l : List Nat}, l.sum = 0 ↔ l = List.replicate l.length 0
  | [] => by simp
  | x :: l => by
    rw [List.sum_cons, List.length_cons, List.replicate_succ, List.cons.injEq, ← sum_zero (l := l)]
    omega
theorem bit_sum : ∀ {l : List Nat}, PB.Bit l → l.sum ≤ l.length
  | [], _ => Nat.le_refl _
  | x :: l, h => by
    have := bit_sum h.tail
    have := h x (List.mem_cons_self ..)
    rw [List.sum_cons, List.length_cons]; omega
theorem dec_l2 (s : ByteArray) (L : List Nat) (hb : PB.Bit L) (hl : L.length ≤ 1000000000) (m : Nat) (hm : 8 * m ≤ L.length) : ∀ (n x r k : Nat), x + n = L.length → r ≤ x →
    vestryref04_Decode.l2 (k + n + 1) s (ints L) (m : Int) (r : Int) (x : Int) = vestryref04_Decode.j3 k s (ints L) (m : Int) (if L.length - 8 * m ≥ 6 then true else decide (r + (L.drop x).sum > 0))
  | 0, x, r, k, h, hr => by
    have h8 : wrap64 (8 * (m : Int)) = ((8 * m : Nat) : Int) := by unfold wrap64; omega
    rw [vestryref04_Decode.l2, if_neg (by rw [ints_len]; omega), h8, ints_len, List.drop_eq_nil_of_le (by omega), w64 (by omega) (by omega)]
    by_cases h6 : L.length - 8 * m ≥ 6
    · rw [if_pos (by omega), if_pos h6]
    · rw [if_neg (by omega), if_neg h6]
      congr 1
      rw [decide_eq_decide, List.sum_nil]
      constructor <;> intro h9 <;> omega
  | n + 1, x, r, k, h, hr => by
    have hx : x < L.length := by omega
    have e : k + (n + 1) + 1 = (k + n + 1) + 1 := by omega
    have hbit := hb L[x] (List.getElem_mem hx)
    rw [e, vestryref04_Decode.l2, if_pos (by rw [ints_len]; omega), if_pos (by omega), rd_map L x hx, w64 (by omega) (by omega), w64 (by omega) (by omega)]
    have h1 := dec_l2 s L hb hl m hm n (x + 1) (r + L[x]) k (by omega) (by omega)
    refine Eq.trans h1 ?_
    congr 2
    rw [List.drop_eq_getElem_cons hx, List.sum_cons, Nat.add_assoc]
theorem dec_l4 (L : List Nat) (hb : PB.Bit L) (m : Nat) (out : List Int) (g : Nat) (hx : 8 * g + 8 ≤ L.length) (hl : L.length ≤ 1000000000) (ho : out.length ≤ 1000000000) : ∀ (c j k : Nat), j + c = 8 →
    vestryref04_Decode.l4 (k + c + 1) (ints L) (m : Int) out (g : Int) (PB.val ((L.drop (8 * g)).take j) : Int) (j : Int) = vestryref04_Decode.l3 k (ints L) (m : Int) (out ++ [((PB.val ((L.drop (8 * g)).take 8) : Nat) : Int)]) ((g + 1 : Nat) : Int)
  | 0, j, k, h => by
    have hj : j = 8 := by omega
    subst hj
    have hv : PB.val ((L.drop (8 * g)).take 8) < 256 := by
      have := PB.val_lt ((hb.drop (8 * g)).take 8)
      rw [List.length_take, List.length_drop, Nat.min_eq_left (by omega)] at this
      exact this
    rw [vestryref04_Decode.l4, if_neg (by omega), if_pos (by omega), w64 (by omega) (by omega)]
    rw [show ((PB.val ((L.drop (8 * g)).take 8) : Nat) : Int) % 256 = ((PB.val ((L.drop (8 * g)).take 8) : Nat) : Int) by omega]
    rfl
  | c + 1, j, k, h => by
    have e : k + (c + 1) + 1 = (k + c + 1) + 1 := by omega
    have hxj : wrap64 (wrap64 (8 * (g : Int)) + (j : Int)) = ((8 * g + j : Nat) : Int) := by
      have : wrap64 (8 * (g : Int)) = ((8 * g : Nat) : Int) := by unfold wrap64; omega
      rw [this]; unfold wrap64; omega
    have hlt : 8 * g + j < L.length := by omega
    have hbit := hb L[8 * g + j] (List.getElem_mem hlt)
    have hv : PB.val ((L.drop (8 * g)).take j) < 256 := by
      have := PB.val_lt ((hb.drop (8 * g)).take j)
      rw [List.length_take, List.length_drop, Nat.min_eq_left (by omega)] at this
      exact Nat.lt_of_lt_of_le this (Nat.pow_le_pow_right (by decide) (show j ≤ 8 by omega))
    rw [e, vestryref04_Decode.l4, if_pos (by omega), hxj, if_pos (by omega), if_pos (by rw [ints_len]; omega), rd_map L (8 * g + j) hlt, w64 (x := 2 * _) (by omega) (by omega), w64 (by omega) (by omega), w64 (by omega) (by omega)]
    have e2 : (2 * (PB.val ((L.drop (8 * g)).take j) : Int) + ((L[8 * g + j] : Nat) : Int)) = ((PB.val ((L.drop (8 * g)).take (j + 1)) : Nat) : Int) := by rw [take_val L (8 * g) j hlt]; omega
    rw [e2, show (j : Int) + 1 = ((j + 1 : Nat) : Int) from rfl]
    exact dec_l4 L hb m out g hx hl ho c (j + 1) k (by omega)
theorem dec_l3 (L : List Nat) (hb : PB.Bit L) (m : Nat) (hm : 8 * m ≤ L.length) (hl : L.length ≤ 1000000000) : ∀ (n g : Nat), g + n = m →
    vestryref04_Decode.l3 (10 * n + 1) (ints L) (m : Int) (ints (PB.groups 8 g L)) (g : Int) = some (ints (PB.groups 8 m L), -1)
  | 0, g, h => by
    have hg : g = m := by omega
    subst hg
    rw [vestryref04_Decode.l3, if_neg (by omega)]
  | n + 1, g, h => by
    have e : 10 * (n + 1) + 1 = (10 * n + 1 + 8 + 1) + 1 := by omega
    rw [e, vestryref04_Decode.l3, if_pos (by omega)]
    have h4 := dec_l4 L hb m (ints (PB.groups 8 g L)) g (by omega) hl (by rw [ints_len, PB.groups_len]; omega) 8 0 (10 * n + 1) rfl
    refine Eq.trans h4 ?_
    have e2 : ints (PB.groups 8 g L) ++ [((PB.val ((L.drop (8 * g)).take 8) : Nat) : Int)] = ints (PB.groups 8 (g + 1) L) := by
      rw [PB.groups_snoc, ints_app]; rfl
    rw [e2]
    exact dec_l3 L hb m hm hl n (g + 1) (by omega)
theorem decode_f (s : ByteArray) (hl : s.size ≤ 100000000) : ∃ k, vestryref04_Decode.f k s = some (ints (decF s.data.toList).1, (decF s.data.toList).2) := by
  have hsl : s.data.toList.length = s.size := rfl
  rcases hf : s.data.toList.findIdx? (fun c => (sval c).isNone) with _ | i
  · -- all signs are good
    have hgood : ∀ c ∈ s.data.toList, (sval c).isNone = false := by
      intro c hc
      have := List.findIdx?_eq_none_iff.1 hf c hc
      simpa using this
    obtain ⟨L, hL⟩ : ∃ L, L = PB.allBits 6 (vals s.data.toList) := ⟨_, rfl⟩
    have hLl : L.length = 6 * s.size := by rw [hL, PB.allBits_len, vals_len, hsl]
    have hb : PB.Bit L := by rw [hL]; exact PB.allBits_bit _ _
    obtain ⟨m, hm⟩ : ∃ m, m = PB.decN s.size := ⟨_, rfl⟩
    have hm2 : m = L.length / 8 := by rw [hm, hLl]; rfl
    have hm8 : 8 * m ≤ L.length := by omega
    have h0 := dec_l0 s hl s.size (Nat.le_refl _) (fun i h => hgood _ (List.getElem_mem _)) s.size 0
    haveI := Classical.propDecidable (PB.Tight (vals s.data.toList))
    have hd : decF s.data.toList = if PB.Tight (vals s.data.toList) then (PB.dec8 (vals s.data.toList), -1) else ([], (s.size : Int) - 1) := by
      rw [decF_good _ hgood]
      by_cases ht : PB.Tight (vals s.data.toList)
      · rw [if_pos ht, if_pos ((enc_back _ hgood).2 ht)]
      · rw [if_neg ht, if_neg (fun h => ht ((enc_back _ hgood).1 h))]; rfl
    have hT : PB.Tight (vals s.data.toList) ↔ ¬ (L.length - 8 * m ≥ 6) ∧ ¬ (0 + (L.drop (8 * m)).sum > 0) := by
      unfold PB.Tight
      rw [vals_len, hsl, ← hL, ← hm, ← hLl]
      have hs : (L.drop (8 * m)).sum = 0 ↔ L.drop (8 * m) = List.replicate (L.length - 8 * m) 0 := by
        rw [sum_zero, List.length_drop]
      rw [← hs]; omega
    have hgen : ∀ k, 65 ≤ k → vestryref04_Decode.l0 (k + 8 * s.size) s (ints (PB.allBits 6 ((vals s.data.toList).take 0))) ((0 : Nat) : Int) = vestryref04_Decode.l0 k s (ints L) (s.size : Int) := fun k hk => by
      have := h0 k (by omega) hk
      rw [List.take_of_length_le (show (vals s.data.toList).length ≤ s.size by rw [vals_len]; exact Nat.le_refl _), ← hL] at this
      exact this
    have hl0 : ∀ k, vestryref04_Decode.l0 (k + 1) s (ints L) (s.size : Int) = vestryref04_Decode.l2 k s (ints L) (m : Int) 0 ((8 * m : Nat) : Int) := fun k => by
      have h1 : wrap64 (((ints L).length : Int) / 8) = (m : Int) := by rw [ints_len]; unfold wrap64; omega
      have h2 : wrap64 (8 * (m : Int)) = ((8 * m : Nat) : Int) := by unfold wrap64; omega
      rw [vestryref04_Decode.l0, if_neg (by omega), h1, h2]
    have hl2 : ∀ k, vestryref04_Decode.l2 (k + (L.length - 8 * m) + 1) s (ints L) (m : Int) 0 ((8 * m : Nat) : Int) = vestryref04_Decode.j3 k s (ints L) (m : Int) (if L.length - 8 * m ≥ 6 then true else decide (0 + (L.drop (8 * m)).sum > 0)) := fun k =>
      dec_l2 s L hb (by omega) m hm8 (L.length - 8 * m) (8 * m) 0 k (by omega) (by omega)
    refine ⟨((10 * m + 1 + 1 + 65) + (L.length - 8 * m) + 1 + 1) + 8 * s.size, ?_⟩
    have hstart := hgen ((10 * m + 1 + 1 + 65) + (L.length - 8 * m) + 1 + 1) (by omega)
    unfold vestryref04_Decode.f
    refine Eq.trans hstart ?_
    rw [hl0, hl2, hd]
    by_cases ht : PB.Tight (vals s.data.toList)
    · obtain ⟨h6, h7⟩ := hT.1 ht
      rw [if_pos ht, if_neg h6, decide_eq_false h7, show 10 * m + 1 + 1 + 65 = (10 * m + 66) + 1 by omega, vestryref04_Decode.j3, if_neg (by simp)]
      have h3 := dec_l3 L hb m hm8 (by omega) m 0 (by omega)
      have h3' := leo_k (fun k => vestryref04_Decode.l3 k (ints L) (m : Int) ([] : List Int) 0) (fun k => (vestryref04_Decode.mono_l k).2.2.2.2.1 _ _ _ _) h3 65
      refine Eq.trans h3' ?_
      unfold PB.dec8
      rw [vals_len, hsl, ← hm, ← hL]
    · have h67 : (if L.length - 8 * m ≥ 6 then true else decide (0 + (L.drop (8 * m)).sum > 0)) = true := by
        by_cases h6 : L.length - 8 * m ≥ 6
        · rw [if_pos h6]
        · rw [if_neg h6]
          refine decide_eq_true ?_
          rcases Nat.lt_or_ge 0 (0 + (L.drop (8 * m)).sum) with h | h
          · exact h
          · exact absurd (hT.2 ⟨h6, by omega⟩) ht
      rw [if_neg ht, h67, show 10 * m + 1 + 1 + 65 = (10 * m + 66) + 1 by omega, vestryref04_Decode.j3, if_pos rfl, w64 (by omega) (by omega)]
      rfl
  · obtain ⟨hi, hbad, hgd⟩ := List.findIdx?_eq_some_iff_getElem.1 hf
    have hbn : sval s.data.toList[i] = none := by
      rcases h : sval s.data.toList[i] with _ | v
      · rfl
      · rw [h] at hbad; cases hbad
    have hx := sval_none hbn
    have hd : decF s.data.toList = ([], (i : Int)) := by unfold decF; rw [hf]
    have h0 := dec_l0 s hl i (by omega) (fun j h => by have := hgd j h; rcases h9 : (sval s.data.toList[j]).isNone with _ | _ <;> simp_all) i 0 66 (by omega) (by omega)
    refine ⟨66 + 8 * i, ?_⟩
    unfold vestryref04_Decode.f
    refine Eq.trans h0 ?_
    rw [vestryref04_Decode.l0, if_pos (by omega), if_pos (by omega), bt_list s i hi, value_f _ _ (by omega), Option.bind_some, if_pos hx, hd]
    rfl
theorem RDec_any (s : ByteArray) (w : World) (hl : s.size ≤ 100000000) :
    Calls Tryd.prog 41 #[.string s] w (DecPost (decF s.data.toList) w) := by
  obtain ⟨k, hk⟩ := decode_f s hl
  refine (vestryref04_Decode.calls k s _ _ w hk).mono ?_
  rintro e w' ⟨v, rfl, hR, hb⟩
  obtain ⟨A, c, rfl, hc, hC⟩ := Kd.R_reads hR
  rw [ints_len] at hR ⊢
  exact ⟨A, c, rfl, hR, hb⟩
end Go.Proofs.YtipapffpfggmnaaDoor
namespace Go.Proofs.YtipapffpfggmnaaDoor
open Go.RowKit Go.Proofs.YtipapffpfggmnaaDoorW.PrintWords Go.Proofs.YtipapffpfggmnaaDoorW.PrintLast Go.Proofs.YtipapffpfggmnaaDoorW.PrintMore Go.Proofs.YtipapffpfggmnaaDoor.PRef
set_option linter.unusedVariables false
structure PutRel (w : World) (y f z : Nat) (acc : List Int) (v : Value) (wr : World) : Prop where
  hR : Kd.R (Kd.int .u8) 5 wr w.heap.size (fun _ => True) v acc
  eq : acc ++ putN f z = putF y
  hz : z < 128 ^ f
  hf : 0 < f
  hl : acc.length + f = 10
  hy : z ≤ y
  hb : Below w.heap.size w wr
set_option maxHeartbeats 2000000 in
set_option maxRecDepth 100000 in
theorem RPut_any (y : Nat) (hy : y < 2 ^ 64) (w : World) : Calls Tryd.prog 37 #[.int .u64 (y : Int)] w fun e w' => ∃ v, e = .returned v ∧ Kd.R (Kd.int .u8) 5 w' w.heap.size (fun _ => True) v (putF y) ∧ Below w.heap.size w w' := by
  go_enter Tryd.func37, Tryd.ntmps37
  go_wp2_with fail
  go_loopw [0, 3, 4] (fun x v _ wr => ∃ (z : Nat) (f : Nat) (acc : List Int), x = .int .u64 (z : Int) ∧ PutRel w y f z acc v wr) (fun x _ _ _ => (intOf x).toNat)
  case atStart => exact ⟨y, 10, [], rfl, Kd.R_nil _ _ _ _ _, rfl, Nat.lt_of_lt_of_le hy (by decide), by decide, rfl, Nat.le_refl _, Below.refl _ _⟩
  case round =>
    obtain ⟨z, f, acc, rfl, hI⟩ := hrel
    have HI := Lib.hid hI
    have hf := hI.hf
    obtain ⟨f, rfl⟩ : ∃ m, f = m + 1 := ⟨f - 1, by omega⟩
    have heq := hI.eq
    have hzf := hI.hz
    have hal := hI.hl
    have hbs := hI.hb.size
    have hzy := hI.hy
    clear hI
    obtain ⟨A, c, rfl, hc, hC⟩ := Kd.R_reads HI.out.hR
    clear hC
    obtain ⟨q, hq⟩ : ∃ q, q = z / 128 := ⟨_, rfl⟩
    obtain ⟨g, hg⟩ : ∃ g, g = z % 128 := ⟨_, rfl⟩
    have hgl : g < 128 := by omega
    have h2 : ((z : Int) % 128) = (g : Int) := by omega
    have h3 : ((g : Int) % 256) = (g : Int) := by omega
    unfold putN at heq
    by_cases hz : z < 128
    · have h1 : IntKind.u64.wrap ((z : Int) / 128) = 0 := by rw [show (z : Int) / 128 = 0 by omega]; rfl
      rw [if_pos hz, show (z : Int) = (g : Int) by omega] at heq
      have HEQ := Lib.hid heq
      clear heq hq hg hz hzf hzy
      go_wp2_with ((with_reducible refine gate_builtin (b := .append) (xs := #[.tmp 12, .tmp 14]) rfl ?_); at_builtin; refine Kd.R_append (Kd.int .u8) (w0 := w) w.heap.size rfl (.tmp 12) (.tmp 14) 22 5 (.int .u8 0) 1 rfl Tryd.underlying22 infoEB rfl (by decide) (by decide) (.slice A acc.length c) acc (g : Int) [.int .u8 (g : Int)] (fun _ => True) (fun _ => False) rfl rfl rfl (fun _ hk => hk.elim) (fun _ _ => trivial) HI.out.hR HI.out.hb hbs (by omega) ?_; intro v1 w1 ho hb hg hat; have ho1 := Lib.hid ho; have hb1 := Lib.hid hb; clear hat hg ho hb)
      go_ret
      rw [← HEQ.out]
      exact ⟨_, rfl, ho1.out, hb1.out⟩
    · have h1 : IntKind.u64.wrap ((z : Int) / 128) = (q : Int) := by rw [w64u _ (by omega) (by omega)]; omega
      have h4 : ((q : Int) == 0) = false := by simp; omega
      have h5 : (((g : Int) + 128) % 256) = (g : Int) + 128 := by omega
      rw [if_neg hz, ← hg, ← hq] at heq
      have HEQ := Lib.hid heq
      have HX := Lib.hid (show 0 < f ∧ q < 128 ^ f ∧ q < z from by
        rcases f with _ | f
        · simp at hzf; omega
        · exact ⟨by omega, by rw [hq]; exact Nat.div_lt_of_lt_mul (by rw [Nat.pow_succ, Nat.mul_comm] at hzf; exact hzf), by omega⟩)
      have hqy : q ≤ y := by omega
      clear heq hq hg hz hzf
      go_wp2_with ((with_reducible refine gate_builtin (b := .append) (xs := #[.tmp 16, .tmp 19]) rfl ?_); at_builtin; refine Kd.R_append (Kd.int .u8) (w0 := w) w.heap.size rfl (.tmp 16) (.tmp 19) 22 5 (.int .u8 0) 1 rfl Tryd.underlying22 infoEB rfl (by decide) (by decide) (.slice A acc.length c) acc ((g : Int) + 128) [.int .u8 ((g : Int) + 128)] (fun _ => True) (fun _ => False) rfl rfl rfl (fun _ hk => hk.elim) (fun _ _ => trivial) HI.out.hR HI.out.hb hbs (by omega) ?_; intro v1 w1 ho hb hg hat; have ho1 := Lib.hid ho; have hb1 := Lib.hid hb; clear hat hg ho hb)
      go_roundw
      case rel => exact ⟨q, f, acc ++ [(g : Int) + 128], rfl, ho1.out, by rw [List.append_assoc]; exact HEQ.out, HX.out.2.1, HX.out.1, by rw [List.length_append, List.length_singleton]; omega, hqy, hb1.out⟩
      case measure => have := HX.out.2.2; simp [intOf]; omega
end Go.Proofs.YtipapffpfggmnaaDoor
namespace Go.Proofs.YtipapffpfggmnaaDoor
open Go.RowKit Go.Proofs.YtipapffpfggmnaaDoorW.PrintWords Go.Proofs.YtipapffpfggmnaaDoorW.PrintLast Go.Proofs.YtipapffpfggmnaaDoorW.PrintMore Go.Proofs.YtipapffpfggmnaaDoor.PRef
set_option linter.unusedVariables false
theorem RCheck_any (v r : Int) (d : List Int) (w : World) (hr0 : 0 ≤ r) :
    Calls Tryd.prog 11 #[.agg (zkC v r d)] w fun e w' => e = .returned (.int .i64 (chkF v r)) ∧ Below w.heap.size w w' := by
  have h0 := heap_alloc_last w (.cells (zkC v r d) 26)
  have q0 := zk_cell0 h0
  have q1 := zk_cell1 h0
  have HB := Lib.hid (below_alloc (Below.refl w.heap.size w) (.cells (zkC v r d) 26))
  clear h0
  generalize zkC v r d = Z at *
  by_cases hv : v = 1
  · subst hv
    by_cases hr : r > 9223372036854775807
    · have he : chkF 1 r = 15 := by unfold chkF; rw [if_neg (by simp), if_pos hr]
      have HE := Lib.hid he
      have hr2 : r ≥ 9223372036854775808 := by omega
      clear he
      go_enter Tryd.func11, Tryd.ntmps11
      go_wp2_with fail
      go_ret
      rw [HE.out]
      exact ⟨rfl, HB.out⟩
    · have he : chkF 1 r = 0 := by unfold chkF; rw [if_neg (by simp), if_neg hr]
      have HE := Lib.hid he
      have hr2 : ¬ r ≥ 9223372036854775808 := by omega
      clear he
      go_enter Tryd.func11, Tryd.ntmps11
      go_wp2_with fail
      go_ret
      rw [HE.out]
      exact ⟨rfl, HB.out⟩
  · have he : chkF v r = 13 := by unfold chkF; rw [if_pos hv]
    have HE := Lib.hid he
    clear he
    go_enter Tryd.func11, Tryd.ntmps11
    go_wp2_with fail
    go_ret
    rw [HE.out]
    exact ⟨rfl, HB.out⟩
theorem results_cell_tmp2 {P : Program} {fn : Func} {p q s : Tmp} {ty : TypeId} (h : fn.results = #[.cell p ty, .tmp q, .tmp s]) (tmps : Array Value) (w : World) (g : Nat) (t : TypeId) (cs : Array Value) (fr : Nat × Nat) (d : TypeDesc)
    (hp : tmps.getD p undef = .pointer (some ⟨g, 0, none⟩)) (hg : w.heap[g]? = some (.cells cs t fr))
    (hu : P.underlying ty = some d) (hd : (match d with | .struct _ | .array _ _ => true | _ => false) = true) (hi : (P.info? ty).map (·.size) = some cs.size) :
    (results fn tmps).run P w = .ok (.tuple #[.agg cs, tmps.getD q undef, tmps.getD s undef]) w := by
  have hp' : tmps[p]?.getD undef = .pointer (some ⟨g, 0, none⟩) := by simpa using hp
  simp [results, h, hp', asAddr, run_loadVar_row w g t ty cs fr d hg hu hd hi]
def eC : Er → Int
  | .nil => 0
  | .code c => c
  | .fault c _ => c
def eA : Er → Int
  | .fault _ a => a
  | _ => 0
def RPP (r : Array Value × Er) (w : World) (e : Ending) (w' : World) : Prop := e = .returned (.tuple #[.agg r.1, .int .i64 (eC r.2), .int .i64 (eA r.2)]) ∧ Below w.heap.size w w'
theorem add_pos (ad : Addr) (m : Nat) (h : 0 < m) : ad.add m = ⟨ad.block, ad.off + m, none⟩ := by
  obtain ⟨k, rfl⟩ : ∃ k, m = k + 1 := ⟨m - 1, by omega⟩
  rw [Addr.add_succ']
theorem C_range3 {w : World} {ad : Addr} {n : Nat} {l : List Int} (m : Nat) (hm : 0 < m) (h : Kd.C (Kd.int .u8) w (some ad) n l) (hl : l.length = n) : w.rangeAt ad.block (ad.off + m) (nums .u8 (l.drop m)) := by
  intro j v hv
  unfold nums at hv
  rw [List.getElem?_map, List.getElem?_drop] at hv
  obtain ⟨x, hx, rfl⟩ := Option.map_eq_some_iff.1 hv
  have hj := (List.getElem?_eq_some_iff.1 hx).1
  subst hl
  obtain ⟨ad', ha, q⟩ := Kd.at_int h ((m + j : Nat) : Int) (by omega) (by omega)
  have ha := Option.some.inj ha
  subst ha
  rw [Int.toNat_natCast, add_pos _ _ (by omega)] at q
  rw [Nat.add_assoc, q]
  unfold rd
  rw [Int.toNat_natCast, List.getD_eq_getElem?_getD, hx]; rfl
theorem arr_at2 (a : Addr) (c : Nat) (W : World) : (Instr.arrayAt 24 (.slice (some a) 32 c)).run Tryd.prog W = .ok (.pointer (some a)) W := by
  simp [Instr.arrayAt, run_underlying Tryd.underlying24]
theorem numF_le : ∀ (f : Nat) (l : List Int) (i : Nat) (x : Int), (numF f l i x).2.1 ≤ l.length
  | 0, l, i, x => Nat.zero_le _
  | f + 1, l, i, x => by
    unfold numF
    split
    · exact Nat.zero_le _
    split
    · exact Nat.zero_le _
    split
    · exact Nat.zero_le _
    split
    · show i + 1 ≤ _; omega
    · exact numF_le f l (i + 1) _
theorem numR_le (l : List Int) : (numR l).2.1 ≤ l.length := numF_le 10 l 0 0
theorem numF_code (hb : True) : ∀ (f : Nat) (l : List Int) (i : Nat) (x : Int), 0 ≤ (numF f l i x).2.2 ∧ (numF f l i x).2.2 ≤ 3
  | 0, l, i, x => by show (0 : Int) ≤ 2 ∧ (2 : Int) ≤ 3; omega
  | f + 1, l, i, x => by
    unfold numF
    split
    · show (0 : Int) ≤ 1 ∧ (1 : Int) ≤ 3; omega
    split
    · show (0 : Int) ≤ 2 ∧ (2 : Int) ≤ 3; omega
    split
    · show (0 : Int) ≤ 3 ∧ (3 : Int) ≤ 3; omega
    split
    · show (0 : Int) ≤ 0 ∧ (0 : Int) ≤ 3; omega
    · exact numF_code hb f l (i + 1) _
theorem numR_code (l : List Int) : 0 ≤ (numR l).2.2 ∧ (numR l).2.2 ≤ 3 := numF_code trivial 10 l 0 0
set_option maxHeartbeats 2000000 in
set_option maxRecDepth 100000 in
theorem RParse_any (A : Option Addr) (c : Nat) (b : List Int) (w : World) (hC : Kd.C (Kd.int .u8) w A b.length b) (hc : b.length ≤ c) (hl : b.length ≤ 1000000) (hb : Bytes b) :
    Calls Tryd.prog 17 #[.slice A b.length c] w (RPP (parseF b) w) := by
  have HC := Lib.hid hC
  clear hC
  by_cases h0 : b.length = 0
  · have HF := Lib.hid (show parseF b = (zk0, .fault 1 0) from if_pos h0)
    have hz : ((b.length : Int) == 0) = true := by rw [h0]; rfl
    go_enter Tryd.func17, Tryd.ntmps17
    go_wp2_with (first | ((with_reducible refine gate_dst (N := 2) rfl ?_); refine wpList_alloc_row rfl 26 rfl _ zz26 ?_; intro w0 hr0 hb0 hs0; have HR0 := Lib.hid hr0; have HB0 := Lib.hid hb0; clear hr0 hb0 hs0) | ((with_reducible refine gate_dst (N := 11) rfl ?_); refine wpList_build_any (by rfl) 26 _ rfl #[] (by simp only [List.map_toArray, List.map_nil]) _ build0 ?_) | ((with_reducible refine gate_store (t := 26) (p := 2) rfl ?_); (refine wpList_store_row rfl 26 _ _ rfl _ (zkC 0 0 zd0) rfl rfl 26 _ HR0.out (iz26 0 0 zd0 rfl) rfl (oneCell_zk 0 0 zd0) ?_)))
    rw [HF.out]
    refine bodyPost_ret (v := .tuple #[.agg zk0, .int .i64 1, .int .i64 0]) (results_cell_tmp2 Tryd.results17 _ _ _ _ _ (0, 0) _ rfl (setRow_heap _ _ _ _ _ _ HR0.out) Tryd.underlying26 rfl (iz26 0 0 zd0 rfl)) rfl ⟨rfl, below_setRow HB0.out (Nat.le_refl _) _⟩
  · have hne : 0 < b.length := by omega
    have hz : ((b.length : Int) == 0) = false := beq_eq_false_iff_ne.2 (by omega)
    obtain ⟨ad, rfl, q0⟩ := Kd.at_int HC.out 0 (by omega) (by omega)
    have q0' : w.cell? ad = some (.int .u8 (rd b 0)) := by simpa [Addr.add_zero'] using q0
    clear q0
    have hnum := fun W (hW : Below w.heap.size w W) => RNumber_any (some ad) c b 1 W (Kd.C_below HC.out hW) hc hb (by omega) (by omega)
    obtain ⟨N, hN⟩ : ∃ N, N = numR (b.drop 1) := ⟨_, rfl⟩
    have HPF := Lib.hid (show parseF b = _ from by unfold parseF; rw [← hN])
    rw [← hN] at hnum
    have hk3 := numR_le (b.drop 1)
    have hcd := numR_code (b.drop 1)
    rw [← hN, List.length_drop] at hk3
    rw [← hN] at hcd
    clear hN
    obtain ⟨x, k, cd⟩ := N
    simp only at hk3 hcd HPF hnum
    obtain ⟨m, hm⟩ : ∃ m, m = 1 + k := ⟨_, rfl⟩
    rw [← hm] at hnum HPF
    have hm1 : 1 ≤ m := by omega
    have hml : m ≤ b.length := by omega
    have HNUM := Lib.hid hnum
    clear hnum hm
    have Q0 := Lib.hid q0'
    clear q0'
    by_cases h1 : rd b 0 = 1
    · go_enter Tryd.func17, Tryd.ntmps17
      rw [h1] at Q0
      go_wp2_with (first | ((with_reducible refine gate_dst (N := 2) rfl ?_); refine wpList_alloc_row rfl 26 rfl _ zz26 ?_; intro w0 hr0 hb0 hs0; have HR0 := Lib.hid hr0; have HB0 := Lib.hid hb0; have q0 := pw_cell_below hb0 Q0.out; clear hr0 hb0 hs0))
      refine (HNUM.out w0 HB0.out).mono ?_
      rintro e1 w1 ⟨rfl, hd1⟩
      have HR1 := Lib.hid (blk_below HR0.out hd1.below)
      have HB1 := Lib.hid (HB0.out.trans (hd1.below.mono HB0.out.size))
      clear hd1 q0
      by_cases h2 : cd = 0
      · subst h2
        by_cases h3 : x > 9223372036854775807
        · have HF := Lib.hid (HPF.out.trans ((if_neg h0).trans ((if_neg (fun h => h h1)).trans ((if_neg (fun h => h rfl)).trans (if_pos h3)))))
          have h3' : x ≥ 9223372036854775808 := by omega
          go_wp2_with (first | ((with_reducible refine gate_dst (N := 31) rfl ?_); refine wpList_build_any (by rfl) 26 _ rfl #[] (by simp only [List.map_toArray, List.map_nil]) _ build0 ?_) | ((with_reducible refine gate_store (t := 26) (p := 2) rfl ?_); (refine wpList_store_row rfl 26 _ _ rfl _ (zkC 0 0 zd0) rfl rfl 26 _ HR1.out (iz26 0 0 zd0 rfl) rfl (oneCell_zk 0 0 zd0) ?_)))
          rw [HF.out]
          refine bodyPost_ret (v := .tuple #[.agg zk0, .int .i64 15, .int .i64 1]) (results_cell_tmp2 Tryd.results17 _ _ _ _ _ (0, 0) _ rfl (setRow_heap _ _ _ _ _ _ HR1.out) Tryd.underlying26 rfl (iz26 0 0 zd0 rfl)) rfl ⟨rfl, below_setRow HB1.out (Nat.le_refl _) _⟩
        · have h3' : ¬ x ≥ 9223372036854775808 := by omega
          by_cases h4 : b.length < m + 32
          · have HF := Lib.hid (HPF.out.trans ((if_neg h0).trans ((if_neg (fun h => h h1)).trans ((if_neg (fun h => h rfl)).trans ((if_neg h3).trans (if_pos h4))))))
            have h4' : (b.length : Int) - (m : Int) < 32 := by omega
            go_wp2_with (first | ((with_reducible refine gate_dst (N := 38) rfl ?_); refine wpList_build_any (by rfl) 26 _ rfl #[] (by simp only [List.map_toArray, List.map_nil]) _ build0 ?_) | ((with_reducible refine gate_store (t := 26) (p := 2) rfl ?_); (refine wpList_store_row rfl 26 _ _ rfl _ (zkC 0 0 zd0) rfl rfl 26 _ HR1.out (iz26 0 0 zd0 rfl) rfl (oneCell_zk 0 0 zd0) ?_)))
            rw [HF.out]
            refine bodyPost_ret (v := .tuple #[.agg zk0, .int .i64 1, .int .i64 (m : Int)]) (results_cell_tmp2 Tryd.results17 _ _ _ _ _ (0, 0) _ rfl (setRow_heap _ _ _ _ _ _ HR1.out) Tryd.underlying26 rfl (iz26 0 0 zd0 rfl)) rfl ⟨rfl, below_setRow HB1.out (Nat.le_refl _) _⟩
          · have h4' : ¬ (b.length : Int) - (m : Int) < 32 := by omega
            by_cases h5 : m + 32 < b.length
            · have HF := Lib.hid (HPF.out.trans ((if_neg h0).trans ((if_neg (fun h => h h1)).trans ((if_neg (fun h => h rfl)).trans ((if_neg h3).trans ((if_neg h4).trans (if_pos h5)))))))
              have h5' : (b.length : Int) - (m : Int) > 32 := by omega
              go_wp2_with (first | ((with_reducible refine gate_dst (N := 45) rfl ?_); refine wpList_build_any (by rfl) 26 _ rfl #[] (by simp only [List.map_toArray, List.map_nil]) _ build0 ?_) | ((with_reducible refine gate_store (t := 26) (p := 2) rfl ?_); (refine wpList_store_row rfl 26 _ _ rfl _ (zkC 0 0 zd0) rfl rfl 26 _ HR1.out (iz26 0 0 zd0 rfl) rfl (oneCell_zk 0 0 zd0) ?_)))
              rw [HF.out]
              refine bodyPost_ret (v := .tuple #[.agg zk0, .int .i64 16, .int .i64 ((m + 32 : Nat) : Int)]) (results_cell_tmp2 Tryd.results17 _ _ _ _ _ (0, 0) _ rfl (setRow_heap _ _ _ _ _ _ HR1.out) Tryd.underlying26 rfl (iz26 0 0 zd0 rfl)) rfl ⟨rfl, below_setRow HB1.out (Nat.le_refl _) _⟩
            · have HF := Lib.hid (HPF.out.trans ((if_neg h0).trans ((if_neg (fun h => h h1)).trans ((if_neg (fun h => h rfl)).trans ((if_neg h3).trans ((if_neg h4).trans (if_neg h5)))))))
              have h5' : ¬ (b.length : Int) - (m : Int) > 32 := by omega
              have hDm : b.length - m = 32 := by omega
              have hlc : ¬ c = m := by omega
              have hadd := add_pos ad m (by omega)
              have hat := arr_at2 ⟨ad.block, ad.off + m, none⟩ (c - m)
              have hC1 := Kd.C_below HC.out HB1.out
              have HRG := Lib.hid (C_range3 m (by omega) hC1 rfl)
              obtain ⟨D, hD⟩ : ∃ D, D = b.drop m := ⟨_, rfl⟩
              have hDl : D.length = 32 := by rw [hD, List.length_drop]; omega
              rw [← hD] at HRG HF
              have HL5 := Lib.hid hDl
              have hi24 := Lib.hid (i32n D hDl)
              clear hC1 hD hDl
              go_wp2_with (first | ((with_reducible refine gate_dst (N := 53) rfl ?_); (refine wpList_load_mid rfl 24 _ rfl ad.block (ad.off + m) rfl (nums .u8 D) _ HRG.out Tryd.underlying24 rfl hi24.out ?_)) | ((with_reducible refine gate_dst (N := 54) rfl ?_); (refine wpList_build_zk rfl _ _ rfl x D rfl rfl HL5.out ?_)) | ((with_reducible refine gate_store (t := 26) (p := 2) rfl ?_); (refine wpList_store_row rfl 26 _ _ rfl _ (zkC 1 x D) rfl rfl 26 _ HR1.out (iz26 1 x D HL5.out) (by rw [zkC_size, HL5.out]; rfl) (oneCell_zk 1 x D) ?_)))
              rw [HF.out]
              refine bodyPost_ret (v := .tuple #[.agg (zkC 1 x D), .int .i64 0, .int .i64 0]) (results_cell_tmp2 Tryd.results17 _ _ _ _ _ (0, 0) _ rfl (setRow_heap _ _ _ _ _ _ HR1.out) Tryd.underlying26 rfl (iz26 1 x D HL5.out)) rfl ⟨rfl, below_setRow HB1.out (Nat.le_refl _) _⟩
      · have HF := Lib.hid (HPF.out.trans ((if_neg h0).trans ((if_neg (fun h => h h1)).trans (if_pos h2))))
        have h2' : (cd == 0) = false := beq_eq_false_iff_ne.2 h2
        have h2'' : (cd != 0) = true := by simpa using h2
        go_wp2_with (first | ((with_reducible refine gate_dst (N := 31) rfl ?_); refine wpList_build_any (by rfl) 26 _ rfl #[] (by simp only [List.map_toArray, List.map_nil]) _ build0 ?_) | ((with_reducible refine gate_store (t := 26) (p := 2) rfl ?_); (refine wpList_store_row rfl 26 _ _ rfl _ (zkC 0 0 zd0) rfl rfl 26 _ HR1.out (iz26 0 0 zd0 rfl) rfl (oneCell_zk 0 0 zd0) ?_)))
        rw [HF.out]
        refine bodyPost_ret (v := .tuple #[.agg zk0, .int .i64 cd, .int .i64 1]) (results_cell_tmp2 Tryd.results17 _ _ _ _ _ (0, 0) _ rfl (setRow_heap _ _ _ _ _ _ HR1.out) Tryd.underlying26 rfl (iz26 0 0 zd0 rfl)) rfl ⟨rfl, below_setRow HB1.out (Nat.le_refl _) _⟩
    · have HF := Lib.hid (HPF.out.trans ((if_neg h0).trans (if_pos h1)))
      have h1' : (rd b 0 != 1) = true := by simpa using h1
      go_enter Tryd.func17, Tryd.ntmps17
      go_wp2_with (first | ((with_reducible refine gate_dst (N := 2) rfl ?_); refine wpList_alloc_row rfl 26 rfl _ zz26 ?_; intro w0 hr0 hb0 hs0; have HR0 := Lib.hid hr0; have HB0 := Lib.hid hb0; have q0 := pw_cell_below hb0 Q0.out; clear hr0 hb0 hs0) | ((with_reducible refine gate_dst (N := 16) rfl ?_); refine wpList_build_any (by rfl) 26 _ rfl #[] (by simp only [List.map_toArray, List.map_nil]) _ build0 ?_) | ((with_reducible refine gate_store (t := 26) (p := 2) rfl ?_); (refine wpList_store_row rfl 26 _ _ rfl _ (zkC 0 0 zd0) rfl rfl 26 _ HR0.out (iz26 0 0 zd0 rfl) rfl (oneCell_zk 0 0 zd0) ?_)))
      rw [HF.out]
      refine bodyPost_ret (v := .tuple #[.agg zk0, .int .i64 13, .int .i64 0]) (results_cell_tmp2 Tryd.results17 _ _ _ _ _ (0, 0) _ rfl (setRow_heap _ _ _ _ _ _ HR0.out) Tryd.underlying26 rfl (iz26 0 0 zd0 rfl)) rfl ⟨rfl, below_setRow HB0.out (Nat.le_refl _) _⟩
end Go.Proofs.YtipapffpfggmnaaDoor
namespace Go.Proofs.YtipapffpfggmnaaDoor
open Go.RowKit Go.Proofs.YtipapffpfggmnaaDoorW.PrintWords Go.Proofs.YtipapffpfggmnaaDoorW.PrintLast Go.Proofs.YtipapffpfggmnaaDoorW.PrintMore Go.Proofs.YtipapffpfggmnaaDoor.PRef
set_option linter.unusedVariables false
theorem C_range2 {w : World} {g n : Nat} {l : List Int} (m : Nat) (h : Kd.C (Kd.int .u8) w (some ⟨g, 0, none⟩) n l) (hl : l.length = n) : w.rangeAt g m (nums .u8 (l.drop m)) := by
  intro j v hv
  unfold nums at hv
  rw [List.getElem?_map, List.getElem?_drop] at hv
  obtain ⟨x, hx, rfl⟩ := Option.map_eq_some_iff.1 hv
  have hj := (List.getElem?_eq_some_iff.1 hx).1
  subst hl
  obtain ⟨ad, ha, q⟩ := Kd.at_int h ((m + j : Nat) : Int) (by omega) (by omega)
  have ha := Option.some.inj ha
  subst ha
  rw [Int.toNat_natCast, add_plain] at q
  rw [q]
  unfold rd
  rw [Int.toNat_natCast, List.getD_eq_getElem?_getD, hx]; rfl
set_option maxHeartbeats 2000000 in
set_option maxRecDepth 100000 in
theorem RVer_any (A : Option Addr) (c : Nat) (key : List Int) (s : ByteArray) (w : World) (hC : Kd.C (Kd.int .u8) w A key.length key) (hc : key.length ≤ c) (hL : key.length ≤ 1000000) (hky : Bytes key) (hs : s.size ≤ 100000) :
    Calls Tryd.prog 19 #[.slice A key.length c, .string s] w (RPP (verF key s.data.toList) w) := by
  have HC := Lib.hid hC
  clear hC
  go_enter Tryd.func19, Tryd.ntmps19
  go_wp2_with (first | ((with_reducible refine gate_dst (N := 4) rfl ?_); refine wpList_alloc_row rfl 26 rfl _ zz26 ?_; intro w0 hr0 hb0 hs0; have HR0 := Lib.hid hr0; have HB0 := Lib.hid hb0; clear hr0 hb0 hs0))
  refine (RDec_any s w0 (by omega)).mono ?_
  rintro e1 w1 ⟨A1, c1, rfl, hR1, hb1⟩
  have HR1 := Lib.hid (blk_below HR0.out hb1)
  have HB1 := Lib.hid (HB0.out.trans (hb1.mono HB0.out.size))
  have HD1 := Lib.hid hR1
  clear hR1 hb1
  obtain ⟨V, hV⟩ : ∃ V, V = verF key s.data.toList := ⟨_, rfl⟩
  have HVV := Lib.hid hV
  unfold verF at hV
  have hdl := (decF_len s.data.toList).1
  have hsl : s.data.toList.length = s.size := rfl
  rw [hsl] at hdl
  have HDB := Lib.hid (decF_bytes s.data.toList)
  generalize decF s.data.toList = R at hV HD1 hdl HDB ⊢
  obtain ⟨D, o⟩ := R
  simp only at hV HD1 hdl HDB ⊢
  have HV := Lib.hid hV
  clear hV
  by_cases h1 : 0 ≤ o
  · have HF := Lib.hid (HV.out.trans (if_pos h1))
    have k1 : o ≥ 0 := h1
    go_wp2_with (first | ((with_reducible refine gate_dst (N := 17) rfl ?_); refine wpList_build_any (by rfl) 26 _ rfl #[] (by simp only [List.map_toArray, List.map_nil]) _ build0 ?_) | ((with_reducible refine gate_store (t := 26) (p := 4) rfl ?_); (refine wpList_store_row rfl 26 _ _ rfl _ (zkC 0 0 zd0) rfl rfl 26 _ HR1.out (iz26 0 0 zd0 rfl) rfl (oneCell_zk 0 0 zd0) ?_)))
    rw [← HVV.out, HF.out]
    refine bodyPost_ret (v := .tuple #[.agg zk0, .int .i64 6, .int .i64 o]) (results_cell_tmp2 Tryd.results19 _ _ _ _ _ (0, 0) _ rfl (setRow_heap _ _ _ _ _ _ HR1.out) Tryd.underlying26 rfl (iz26 0 0 zd0 rfl)) rfl ⟨rfl, below_setRow HB1.out (Nat.le_refl _) _⟩
  · have k1 : ¬ o ≥ 0 := h1
    by_cases h2 : D.length < 32
    · have HF := Lib.hid (HV.out.trans ((if_neg h1).trans (if_pos h2)))
      have k2 : ((D.length : Int) - 32) < 0 := by omega
      go_wp2_with (first | ((with_reducible refine gate_dst (N := 24) rfl ?_); refine wpList_build_any (by rfl) 26 _ rfl #[] (by simp only [List.map_toArray, List.map_nil]) _ build0 ?_) | ((with_reducible refine gate_store (t := 26) (p := 4) rfl ?_); (refine wpList_store_row rfl 26 _ _ rfl _ (zkC 0 0 zd0) rfl rfl 26 _ HR1.out (iz26 0 0 zd0 rfl) rfl (oneCell_zk 0 0 zd0) ?_)))
      rw [← HVV.out, HF.out]
      refine bodyPost_ret (v := .tuple #[.agg zk0, .int .i64 1, .int .i64 (D.length : Int)]) (results_cell_tmp2 Tryd.results19 _ _ _ _ _ (0, 0) _ rfl (setRow_heap _ _ _ _ _ _ HR1.out) Tryd.underlying26 rfl (iz26 0 0 zd0 rfl)) rfl ⟨rfl, below_setRow HB1.out (Nat.le_refl _) _⟩
    · have k2 : ¬ ((D.length : Int) - 32) < 0 := by omega
      obtain ⟨A', c', he, hcc, hCC⟩ := Kd.R_reads HD1.out
      rw [ints_len] at he hcc hCC
      injection he with e1 e2 e3
      subst e1 e3
      obtain ⟨ad, hA, -⟩ := hCC.2.2 (by omega)
      subst hA
      obtain ⟨g, rfl⟩ := Kd.R_head HD1.out
      have HCC := Lib.hid hCC
      obtain ⟨m, hm⟩ : ∃ m, m = D.length - 32 := ⟨_, rfl⟩
      have hcast : ((D.length : Int) - 32) = (m : Int) := by omega
      have HCA := Lib.hid hcast
      have hmD : D.length - m = 32 := by omega
      have HVL := Lib.hid (HV.out.trans ((if_neg (by omega : ¬ 0 ≤ o)).trans (if_neg (by omega : ¬ D.length < 32))))
      clear hCC hcast
      have HM := Lib.hid hm
      clear hm
      go_wp2_with fail
      have hm := HM.out
      rw [HCA.out]
      rw [← hm] at HVL
      clear hm
      obtain ⟨B, hB⟩ : ∃ B, B = (ints D).take m := ⟨_, rfl⟩
      have hbl : B.length = m := by rw [hB, List.length_take, ints_len]; omega
      have hCB : Kd.C (Kd.int .u8) w1 (some ⟨g, 0, none⟩) B.length B := by
        have h := Kd.C_take (k := Kd.int .u8) (w := w1) (A := some ⟨g, 0, none⟩) (xs := ints D) (by rw [ints_len]; exact HCC.out) (m := m) (by rw [ints_len]; omega)
        rw [← hB] at h; exact h
      obtain ⟨L, hL'⟩ : ∃ L, L = (ints D).drop m := ⟨_, rfl⟩
      have hLL : L.length = 32 := by rw [hL', List.length_drop, ints_len]; omega
      have hBB : Bytes B := fun x hx => HDB.out x (List.mem_of_mem_take (hB ▸ hx))
      rw [← hB, ← hL'] at HVL
      have HCB := Lib.hid hCB
      have HBL := Lib.hid hbl
      have HBB := Lib.hid hBB
      have HLL := Lib.hid hLL
      have hi24 := Lib.hid (i32n L hLL)
      have hlt := C_lt (xs := ints D) (by rw [ints_len]; exact HCC.out) (by rw [ints_len]; omega) ⟨g, 0, none⟩ rfl
      have HLT := Lib.hid hlt
      have hRG := C_range2 m (l := ints D) HCC.out (by rw [ints_len])
      rw [← hL'] at hRG
      have HRG := Lib.hid hRG
      have hlc : ¬ c1 = m := by omega
      have k4 : m ≤ D.length := by omega
      have k5 : (m : Int) ≤ D.length := by omega
      have k6 : m ≤ c1 := by omega
      have hat := arr_at2 ⟨g, m, none⟩ (c1 - m)
      have hmac := fun W (hW : Below w1.heap.size w1 W) => rmac_any A c key (some ⟨g, 0, none⟩) c1 B W (Kd.C_below HC.out (HB1.out.trans (hW.mono HB1.out.size))) hc hL hky (Kd.C_below HCB.out hW) (by rw [hbl]; omega) (by rw [hbl]; omega) hBB
      rw [hbl] at hmac
      obtain ⟨T, hT⟩ : ∃ T, T = macF key B := ⟨_, rfl⟩
      rw [← hT] at hmac HVL
      have htl : T.length = 32 := by rw [hT]; exact macF_len _ _
      have hneq := arr_neq T L htl hLL
      have HMAC := Lib.hid (fun x : Wx w1 => hmac x.w x.h)
      clear hmac hRG hlt hbl hCB hB hL' hLL hBB hT htl
      by_cases hTL : T = L
      · rw [decide_eq_true hTL] at hneq
        have HF := Lib.hid (HVL.out.trans (if_pos hTL))
        clear hTL
        refine wp_region_wx (by kernel_rfl) (by kernel_rfl) ?_; (repeat (first | go_big_quiet_skip | ((with_reducible refine gateq (N := 36) rfl ?_); refine wpQuiet_load_mid (by rfl) 24 _ rfl g m rfl (nums .u8 L) _ HRG.out HLT.out Tryd.underlying24 rfl hi24.out ?_; simp only [Act.put, List.setIfInBounds_toArray, List.set_cons_zero, List.set_cons_succ]) | go_big_quiet_step ((go_at_call 42; with_reducible exact calls_wx (HMAC.out _))))); refine wpQuiet_nil ?_; intro w2 hw2; have hb2 := wx_bel hw2; clear hw2
        have HR2 := Lib.hid (blk_below HR1.out hb2)
        have HB2 := Lib.hid (HB1.out.trans (hb2.mono HB1.out.size))
        have hPA := RParse_any (some ⟨g, 0, none⟩) c1 B w2 (Kd.C_below HCB.out hb2) (by rw [HBL.out]; omega) (by rw [HBL.out]; omega) HBB.out
        obtain ⟨v', r', d', hd', he'⟩ := parseF_shape B
        obtain ⟨r, hr⟩ : ∃ r, r = parseF B := ⟨_, rfl⟩
        rw [← hr] at hPA HF he'
        obtain ⟨a, er⟩ := r
        simp only at he'
        subst he'
        rw [HBL.out] at hPA
        have HPA := Lib.hid hPA
        have HD' := Lib.hid hd'
        clear hPA hr hd' hb2
        go_wp2_with fail
        refine HPA.out.mono ?_
        rintro e5 w5 ⟨rfl, hb5⟩
        have HR5 := Lib.hid (blk_below HR2.out hb5)
        have HB5 := Lib.hid (HB2.out.trans (hb5.mono HB2.out.size))
        clear hb5
        simp only
        go_wp2_with ((with_reducible refine gate_store (t := 26) (p := 4) rfl ?_); (refine wpList_store_row rfl 26 _ _ rfl _ (zkC v' r' d') rfl rfl 26 _ HR5.out (iz26 v' r' d' HD'.out) (by rw [zkC_size, HD'.out]; rfl) (oneCell_zk v' r' d') ?_))
        rw [← HVV.out, HF.out]
        refine bodyPost_ret (v := .tuple #[.agg (zkC v' r' d'), .int .i64 (eC er), .int .i64 (eA er)]) (results_cell_tmp2 Tryd.results19 _ _ _ _ _ (0, 0) _ rfl (setRow_heap _ _ _ _ _ _ HR5.out) Tryd.underlying26 rfl (iz26 v' r' d' HD'.out)) rfl ⟨rfl, below_setRow HB5.out (Nat.le_refl _) _⟩
      · rw [decide_eq_false hTL] at hneq
        have HF := Lib.hid (HVL.out.trans (if_neg hTL))
        clear hTL
        refine wp_region_wx (by kernel_rfl) (by kernel_rfl) ?_; (repeat (first | go_big_quiet_skip | ((with_reducible refine gateq (N := 36) rfl ?_); refine wpQuiet_load_mid (by rfl) 24 _ rfl g m rfl (nums .u8 L) _ HRG.out HLT.out Tryd.underlying24 rfl hi24.out ?_; simp only [Act.put, List.setIfInBounds_toArray, List.set_cons_zero, List.set_cons_succ]) | go_big_quiet_step ((go_at_call 42; with_reducible exact calls_wx (HMAC.out _))))); refine wpQuiet_nil ?_; intro w2 hw2; have hb2 := wx_bel hw2; clear hw2
        have HR2 := Lib.hid (blk_below HR1.out hb2)
        have HB2 := Lib.hid (HB1.out.trans (hb2.mono HB1.out.size))
        clear hb2
        go_wp2_with (first | ((with_reducible refine gate_dst (N := 38) rfl ?_); refine wpList_build_any (by rfl) 26 _ rfl #[] (by simp only [List.map_toArray, List.map_nil]) _ build0 ?_) | ((with_reducible refine gate_store (t := 26) (p := 4) rfl ?_); (refine wpList_store_row rfl 26 _ _ rfl _ (zkC 0 0 zd0) rfl rfl 26 _ HR2.out (iz26 0 0 zd0 rfl) rfl (oneCell_zk 0 0 zd0) ?_)))
        rw [← HVV.out, HF.out]
        refine bodyPost_ret (v := .tuple #[.agg zk0, .int .i64 12, .int .i64 (m : Int)]) (results_cell_tmp2 Tryd.results19 _ _ _ _ _ (0, 0) _ rfl (setRow_heap _ _ _ _ _ _ HR2.out) Tryd.underlying26 rfl (iz26 0 0 zd0 rfl)) rfl ⟨rfl, below_setRow HB2.out (Nat.le_refl _) _⟩
end Go.Proofs.YtipapffpfggmnaaDoor
namespace Go.Proofs.YtipapffpfggmnaaDoor
open Go.RowKit Go.Proofs.YtipapffpfggmnaaDoorW.PrintWords Go.Proofs.YtipapffpfggmnaaDoorW.PrintLast Go.Proofs.YtipapffpfggmnaaDoorW.PrintMore Go.Proofs.YtipapffpfggmnaaDoor.PRef
set_option linter.unusedVariables false
/-- The text of bytes with their code. -/
def signF (key msg : List Int) : ByteArray := encF ((msg ++ macF key msg).map Int.toNat)
set_option maxHeartbeats 2000000 in
set_option maxRecDepth 100000 in
theorem RSign_any (A : Option Addr) (c : Nat) (key : List Int) (B : Option Addr) (bc : Nat) (msg : List Int) (w : World) (hC : Kd.C (Kd.int .u8) w A key.length key) (hc : key.length ≤ c) (hL : key.length ≤ 1000000) (hky : Bytes key) (hM : Kd.C (Kd.int .u8) w B msg.length msg) (hbc : msg.length ≤ bc) (hML : msg.length ≤ 1000000) (hmy : Bytes msg) :
    Calls Tryd.prog 20 #[.slice A key.length c, .slice B msg.length bc] w fun e w' => e = .returned (.string (signF key msg)) ∧ Below w.heap.size w w' := by
  have HMAC := Lib.hid (rmac_any A c key B bc msg w hC hc hL hky hM hbc hML hmy)
  have HM := Lib.hid hM
  clear hC hM
  go_enter Tryd.func20, Tryd.ntmps20
  go_wp2_with fail
  refine HMAC.out.mono ?_
  rintro e2 w2 ⟨rfl, hb2⟩
  have HB2 := Lib.hid hb2
  have HM2 := Lib.hid (Kd.C_below HM.out hb2)
  clear hb2
  obtain ⟨T, hT⟩ : ∃ T, T = macF key msg := ⟨_, rfl⟩
  have htl : T.length = 32 := by rw [hT]; exact macF_len _ _
  have HTB := Lib.hid (show Bytes T by rw [hT]; exact shaF_bytes _)
  have HSG := Lib.hid (show signF key msg = encF ((msg ++ T).map Int.toNat) by unfold signF; rw [hT])
  rw [← hT]
  have hi32k := Lib.hid (show (Tryd.prog.info? 24).map (·.size) = some (nums .u8 T).toArray.size by rw [List.size_toArray, nums_length, htl]; exact i32b)
  have hsz32 := Lib.hid (show (nums .u8 (List.replicate 32 0)).toArray.size = (nums .u8 T).toArray.size by rw [List.size_toArray, nums_length, List.size_toArray, nums_length, htl]; rfl)
  have HTL := Lib.hid htl
  clear hT htl HMAC
  go_wp2_with (first | ((with_reducible refine gate_dst (N := 5) rfl ?_); refine wpList_alloc_row rfl 24 rfl _ z32 ?_; intro w7 hr7 hb7 hs7; have HRD := Lib.hid hr7; have HBD := Lib.hid hb7; clear hr7 hb7 hs7) | ((with_reducible refine gate_store (t := 24) (p := 5) rfl ?_); (refine wpList_store_row rfl 24 _ _ rfl _ _ rfl rfl 24 _ HRD.out hi32k.out hsz32.out (oneCell_nums _ _) ?_); refine stopHere ?_))
  refine ⟨?_⟩
  have HD8 := Lib.hid (setRow_heap _ _ _ (nums .u8 T).toArray _ _ HRD.out)
  have HB8 := Lib.hid (below_setRow (HB2.out.trans (HBD.out.mono HB2.out.size)) HB2.out.size (nums .u8 T).toArray)
  have HM8 := Lib.hid (C_row (Kd.C_below HM2.out HBD.out) (g := w2.heap.size) (fun hp ad ha => Nat.ne_of_lt (C_lt HM2.out hp ad ha)) (nums .u8 T).toArray)
  generalize w7.setRow w2.heap.size (nums .u8 T).toArray = w8 at *
  generalize w2.heap.size = n8 at *
  have HR0 := Lib.hid (show Kd.R (Kd.int .u8) 5 (w8.drew.alloc (.cells #[] 5)) w8.heap.size (fun _ => True) (.slice (some ⟨w8.heap.size, 0, none⟩) 0 0) [] from R_lit0 w8.drew)
  have hbd : Below w8.heap.size w8 (w8.drew.alloc (.cells #[] 5)) := (below_drew0 (Below.refl _ _)).alloc (Nat.le_refl _) _
  have HBR := Lib.hid hbd
  have HMR := Lib.hid (Kd.C_below HM8.out hbd)
  have hlt8 := blk_lt HD8.out
  have hTc := C_block HD8.out (by rw [HTL.out]; decide)
  have HTC := Lib.hid hTc
  obtain ⟨P, hP⟩ : ∃ P, P = msg ++ T := ⟨_, rfl⟩
  have hPB : Bytes P := by rw [hP]; exact hmy.append HTB.out
  have hPL : P.length = msg.length + 32 := by rw [hP, List.length_append, HTL.out]
  have hE : ∀ (W : World) (A4 : Option Addr) (c4 : Nat), Kd.C (Kd.int .u8) W A4 P.length P → P.length ≤ c4 → Calls Tryd.prog 43 #[.slice A4 P.length c4] W fun e w' => e = .returned (.string (signF key msg)) ∧ Below W.heap.size W w' := fun W A4 c4 h1 h2 => by
    have hit := ints_toNat hPB
    have hil : (P.map Int.toNat).length = P.length := List.length_map _
    have h := REnc_any A4 c4 (P.map Int.toNat) W (by rw [hit, hil]; exact h1) (by rw [hil]; exact h2) (toNat_lt hPB) (by rw [hil, hPL]; omega)
    rw [hil] at h
    rw [HSG.out, ← hP]
    exact h
  have HE := Lib.hid hE
  have HP := Lib.hid hP
  have HPL := Lib.hid hPL
  clear hE hP hPL hPB
  clear hbd hTc
  go_wp2_with fail
  go_region_held3 (fun _ => True) (trivial) (first | (refine Kd.R_append_rows_step (Kd.int .u8) (w0 := w8) w8.heap.size (by rfl) (.tmp 9) (.tmp 10) 22 5 (.int .u8 0) 1 (by rfl) Tryd.underlying22 infoEB rfl (by decide) (by decide) (.slice (some ⟨w8.heap.size, 0, none⟩) 0 0) [] msg B msg.length bc (fun _ => True) (fun _ => False) (by rfl) (by rfl) HR0.out HMR.out (fun _ _ h => h) (fun _ h => h.elim) (fun _ _ => trivial) HBR.out (by simp) (by simp; omega) ?_; intro v3 w3 hR3 hB3 hg3 hat3; rw [List.nil_append] at hR3; obtain ⟨A3, c3, rfl, hc3, hC3⟩ := Kd.R_reads hR3; have HR3 := Lib.hid hR3; have HB3 := Lib.hid hB3; clear hR3 hB3 hg3 hat3 hC3) | (refine Kd.R_append_rows_step (Kd.int .u8) (w0 := w8) w8.heap.size (by rfl) (.tmp 11) (.tmp 12) 22 5 (.int .u8 0) 1 (by rfl) Tryd.underlying22 infoEB rfl (by decide) (by decide) (.slice A3 msg.length c3) msg T (some ⟨n8, 0, none⟩) 32 32 (fun _ => True) (fun _ => False) (by rfl) (by rfl) HR3.out (by have h := Kd.C_below HTC.out HB3.out; rw [HTL.out] at h; exact h) (fun _ _ h => h) (fun _ h => h.elim) (fun _ _ => trivial) HB3.out HB3.out.size (by omega) ?_; intro v4 w4 hR4 hB4 hg4 hat4; rw [← HP.out] at hR4; obtain ⟨A4, c4, rfl, hc4, hC4⟩ := Kd.R_reads hR4; have HC4 := Lib.hid hC4; have HCC4 := Lib.hid hc4; have HB4 := Lib.hid hB4; clear hR4 hB4 hg4 hat4 hC4 hc4) | (go_at_call 43; refine (HE.out _ _ _ HC4.out HCC4.out).mono ?_; rintro e10 w10 ⟨rfl, hb10⟩; have HB10 := Lib.hid hb10; clear hb10) | fail)
  all_goals go_wp2_with fail
  all_goals go_ret
  all_goals exact ⟨rfl, HB8.out.trans ((HB4.out.trans (HB10.out.mono HB4.out.size)).mono HB8.out.size)⟩
end Go.Proofs.YtipapffpfggmnaaDoor
namespace Go.Proofs.YtipapffpfggmnaaDoor
open Go.RowKit Go.Proofs.YtipapffpfggmnaaDoorW.PrintWords Go.Proofs.YtipapffpfggmnaaDoorW.PrintLast Go.Proofs.YtipapffpfggmnaaDoorW.PrintMore Go.Proofs.YtipapffpfggmnaaDoor.PRef
set_option linter.unusedVariables false
theorem R_lit1 (w : World) (x : Int) : Kd.R (Kd.int .u8) 5 (w.alloc (.cells #[.int .u8 x] 5)) w.heap.size (fun _ => True) (.slice (some ⟨w.heap.size, 0, none⟩) 1 1) [x] := by
  have h2 := World.ownsRow_lit (base := w.heap.size) (e := 5) (size := 1) w #[.int .u8 x] 1 (Nat.le_refl _) (by decide) rfl
  refine ⟨fun _ _ => trivial, [.int .u8 x], h2, ⟨rfl, fun j p hj => ?_⟩⟩
  rcases j with _ | j
  · simp at hj; subst hj; rfl
  · simp at hj
def PutPost3 (W0 W : World) (l : List Int) (e : Ending) (w' : World) : Prop := ∃ A c, e = .returned (.slice A l.length c) ∧ l.length ≤ c ∧ Kd.C (Kd.int .u8) w' A l.length l ∧ Below W.heap.size W w' ∧ Below W0.heap.size W0 w'
set_option maxHeartbeats 2000000 in
set_option maxRecDepth 100000 in
theorem RPay_any (v : Int) (y : Nat) (d : List Int) (w : World) (hd : d.length = 32) (hy : y < 2 ^ 64) :
    Calls Tryd.prog 15 #[.agg (zkC v (y : Int) d)] w (RPostB (payF y d) w) := by
  obtain ⟨W0, hW0⟩ : ∃ W0, W0 = w.alloc (.cells (zkC v (y : Int) d) 26) := ⟨_, rfl⟩
  have hz0 : W0.heap[w.heap.size]? = some (.cells (zkC v (y : Int) d) 26 (0, 0)) := by rw [hW0]; exact heap_alloc_last _ _
  have hs0 : W0.heap.size = w.heap.size + 1 := by rw [hW0, World.size_alloc]
  have hbw : Below w.heap.size w W0 := by rw [hW0]; exact below_alloc (Below.refl _ _) _
  have hS : ∀ W, Below W0.heap.size W0 W → W.cell? ⟨w.heap.size, 1, none⟩ = some (.int .u64 (y : Int)) := fun W hW => (hW.cell (p := ⟨w.heap.size, 1, none⟩) (by show w.heap.size < W0.heap.size; omega)).trans (zk_cell1 hz0)
  have hZ : ∀ W, Below W0.heap.size W0 W → Kd.C (Kd.int .u8) W (some ⟨w.heap.size, 2, none⟩) 32 d := fun W hW => by
    have h := C_zk ((hW.block _ (by omega)).trans hz0) (by rw [hd]; decide)
    rw [hd] at h; exact h
  have hPUT : ∀ W, Below W0.heap.size W0 W → Calls Tryd.prog 37 #[.int .u64 (y : Int)] W (PutPost3 W0 W (putF y)) := fun W hW => (RPut_any y hy W).mono (by
    rintro e2 w2 ⟨v2, rfl, hR, hb⟩
    obtain ⟨A, c, rfl, hc, hC⟩ := Kd.R_reads hR
    exact ⟨A, c, rfl, hc, hC, hb, hW.trans (hb.mono hW.size)⟩)
  have hPL : (putF y).length ≤ 10 := putN_len 10 y
  have HS := Lib.hid hS
  have HZ := Lib.hid hZ
  have HPUT := Lib.hid hPUT
  have HBW0 := Lib.hid hbw
  have HS0 := Lib.hid hs0
  have HD := Lib.hid hd
  have HPF := Lib.hid (show payF y d = ([1] ++ putF y) ++ d from rfl)
  have HRA := Lib.hid (show Kd.R (Kd.int .u8) 5 (W0.drew.alloc (.cells #[.int .u8 1] 5)) W0.heap.size (fun _ => True) (.slice (some ⟨W0.heap.size, 0, none⟩) 1 1) [1] from R_lit1 W0.drew 1)
  clear hz0 hbw hS hZ hPUT hs0 hd
  go_enter Tryd.func15, Tryd.ntmps15
  go_wp2_with fail
  rw [← hW0]
  clear hW0
  generalize payF y d = PF at *
  generalize putF y = PT at *
  generalize hnn : w.heap.size = n at *
  have HNN := Lib.hid hnn
  clear hnn
  have HBW := Lib.hid (Below.refl W0.heap.size W0)
  obtain ⟨Q, hQ⟩ : ∃ Q, Q = [1] ++ PT := ⟨_, rfl⟩
  have hQL : Q.length ≤ 11 := by rw [hQ]; simp; omega
  have HQ := Lib.hid hQ
  rw [← hQ] at HPF
  clear hQ
  go_region_held3 (fun w' => w'.cell? ⟨n, 1, none⟩ = some (.int .u64 (y : Int))) (first | with_reducible exact HS.out _ HBW.out | with_reducible exact HS.out _ (HBW.out.alloc HBW.out.size _) | with_reducible exact HS.out _ (below_drew0 (Below.refl _ _)) | with_reducible exact HS.out _ ((below_drew0 (Below.refl _ _)).alloc (Nat.le_refl _) _) | with_reducible exact HS.out _ (below_alloc (Below.refl _ _) _) | exact HS.out _ ((below_drew0 (Below.refl _ _)).alloc (Nat.le_refl _) _) | go_keep) (first | (go_at_call 37; refine (HPUT.out _ (by first | with_reducible exact below_drew0 (Below.refl _ _) | exact (below_drew0 (Below.refl _ _)).alloc (Nat.le_refl _) _)).mono ?_; rintro e9 w9 ⟨A9, c9, rfl, hc9, hC9, hbb9, hb9⟩; have HL9 := Lib.hid hc9; have HC9 := Lib.hid hC9; have HBB9 := Lib.hid hbb9; have HBW := Lib.hid hb9; clear hc9 hC9 hbb9 hb9) | (refine Kd.R_append_rows_step (Kd.int .u8) (w0 := W0) W0.heap.size (by rfl) (.tmp 3) (.tmp 6) 22 5 (.int .u8 0) 1 (by rfl) Tryd.underlying22 infoEB rfl (by decide) (by decide) (.slice (some ⟨W0.heap.size, 0, none⟩) 1 1) [1] PT A9 PT.length c9 (fun _ => True) (fun _ => False) (by rfl) (by rfl) (Kd.R_below HRA.out HBB9.out) HC9.out (fun _ _ h => h) (fun _ h => h.elim) (fun _ _ => trivial) HBW.out HBW.out.size (by simp; omega) ?_; intro v3 w3 hR3 hB3 hg3 hat3; rw [← HQ.out] at hR3; obtain ⟨A3, c3, rfl, hc3, hC3⟩ := Kd.R_reads hR3; have HR3 := Lib.hid hR3; have HBW := Lib.hid hB3; clear hR3 hB3 hg3 hat3 hC3) | (refine Kd.R_append_rows_step (Kd.int .u8) (w0 := W0) W0.heap.size (by rfl) (.tmp 3) (.tmp 6) 22 5 (.int .u8 0) 1 (by rfl) Tryd.underlying22 infoEB rfl (by decide) (by decide) (.slice (some ⟨w9.heap.size, 0, none⟩) 1 1) [1] PT A9 PT.length c9 (fun _ => True) (fun _ => False) (by rfl) (by rfl) (Kd.R_lower (R_lit1 w9 1) HBW.out.size) (Kd.C_alloc HC9.out _) (fun _ _ h => h) (fun _ h => h.elim) (fun _ _ => trivial) (HBW.out.alloc HBW.out.size _) (by simp; exact Nat.le_succ_of_le HBW.out.size) (by simp; omega) ?_; intro v3 w3 hR3 hB3 hg3 hat3; rw [← HQ.out] at hR3; obtain ⟨A3, c3, rfl, hc3, hC3⟩ := Kd.R_reads hR3; have HR3 := Lib.hid hR3; have HBW := Lib.hid hB3; clear hR3 hB3 hg3 hat3 hC3) | (refine Kd.R_append_rows_step (Kd.int .u8) (w0 := W0) W0.heap.size (by rfl) (.tmp 7) (.tmp 9) 22 5 (.int .u8 0) 1 (by rfl) Tryd.underlying22 infoEB rfl (by decide) (by decide) (.slice A3 Q.length c3) Q d (some ⟨n, 2, none⟩) 32 32 (fun _ => True) (fun _ => False) (by rfl) (by rfl) HR3.out (HZ.out _ HBW.out) (fun _ _ h => h) (fun _ h => h.elim) (fun _ _ => trivial) HBW.out HBW.out.size (by omega) ?_; intro v4 w4 hR4 hB4 hg4 hat4; rw [← HPF.out] at hR4; have HR4 := Lib.hid hR4; have HBW := Lib.hid hB4; clear hR4 hB4 hg4 hat4) | fail)
  all_goals go_wp2_with fail
  all_goals go_ret
  all_goals exact ⟨v4, rfl, Kd.R_lower HR4.out (by have := HS0.out; have := HNN.out; omega), by rw [HNN.out]; exact HBW0.out.trans (HBW.out.mono (by have := HS0.out; omega))⟩
set_option maxHeartbeats 2000000 in
set_option maxRecDepth 100000 in
theorem RMint_any (A : Option Addr) (c : Nat) (key : List Int) (v : Int) (y : Nat) (d : List Int) (w : World) (hd : d.length = 32) (hy : y < 2 ^ 64) (hdb : Bytes d) (hC : Kd.C (Kd.int .u8) w A key.length key) (hc : key.length ≤ c) (hL : key.length ≤ 1000000) (hky : Bytes key) :
    Calls Tryd.prog 16 #[.slice A key.length c, .agg (zkC v (y : Int) d)] w fun e w' => e = .returned (.string (encF ((mintF key y d).map Int.toNat))) ∧ Below w.heap.size w w' := by
  have hl0 := heap_alloc_last w (.cells (zkC v (y : Int) d) 26)
  have hB := below_alloc (Below.refl w.heap.size w) (.cells (zkC v (y : Int) d) 26)
  have HZ := Lib.hid hl0
  have HB := Lib.hid hB
  have HC := Lib.hid (Kd.C_below hC hB)
  have HJ := Lib.hid (iz26 v (y : Int) d hd)
  have HPA := Lib.hid (fun W => RPay_any v y d W hd hy)
  have HPL := Lib.hid (show (payF y d).length ≤ 1000000 by rw [payF_len y d hd]; have := putN_len 10 y; unfold putF; omega)
  have HPB := Lib.hid (payF_bytes y d hdb)
  have HE := Lib.hid (show signF key (payF y d) = encF ((mintF key y d).map Int.toNat) from rfl)
  clear hl0 hB hd hdb hC
  generalize zkC v (y : Int) d = Z at *
  generalize payF y d = PF at *
  go_enter Tryd.func16, Tryd.ntmps16
  go_wp2_with ((with_reducible refine gate_dst (N := 6) rfl ?_); (refine wpList_load_row rfl 26 _ rfl _ rfl 26 _ (0, 0) _ HZ.out Tryd.underlying26 rfl HJ.out ?_))
  refine (HPA.out _).mono ?_
  rintro e1 w1 ⟨v1, rfl, hR1, hb1⟩
  obtain ⟨A1, c1, rfl, hc1, hC1⟩ := Kd.R_reads hR1
  have HB1 := Lib.hid (HB.out.trans (hb1.mono (by simp)))
  have hsg := RSign_any A c key A1 c1 PF w1 (Kd.C_below HC.out hb1) hc hL hky hC1 hc1 HPL.out HPB.out
  have HSG := Lib.hid hsg
  clear hR1 hb1 hC1 hc1 hsg
  go_wp2_with fail
  refine HSG.out.mono ?_
  rintro e2 w2 ⟨rfl, hb2⟩
  have HB2 := Lib.hid (HB1.out.trans (hb2.mono HB1.out.size))
  clear hb2
  rw [HE.out]
  go_wp2_with fail
  go_ret
  exact ⟨rfl, HB2.out⟩
end Go.Proofs.YtipapffpfggmnaaDoor
namespace Go.Proofs.YtipapffpfggmnaaDoor
open Go.RowKit Go.Proofs.YtipapffpfggmnaaDoorW.PrintWords Go.Proofs.YtipapffpfggmnaaDoorW.PrintLast Go.Proofs.YtipapffpfggmnaaDoorW.PrintMore Go.Proofs.YtipapffpfggmnaaDoor.PRef
set_option linter.unusedVariables false
theorem drop_rd {L : List Int} {i : Nat} (h : i < L.length) : L.drop i = rd L (i : Int) :: L.drop (i + 1) := by
  rw [List.drop_eq_getElem_cons h]
  congr 1
  unfold rd
  rw [Int.toNat_natCast, List.getD_eq_getElem?_getD, List.getElem?_eq_getElem h]; rfl
/-- What is read as a number is what is written of it. -/
theorem numF_inv : ∀ (f : Nat) (L : List Int) (i : Nat) (x : Int), Bytes L → f + i = 10 → (numF f L i x).2.2 = 0 → ∃ y : Nat, (numF f L i x).1 = x + (y : Int) * 2 ^ (7 * i) ∧ i < (numF f L i x).2.1 ∧ (L.drop i).take ((numF f L i x).2.1 - i) = putN f y ∧ (0 < i → 0 < y) ∧ y < 2 ^ (64 - 7 * i)
  | 0, L, i, x, hb, hf, h => by have h2 : (2 : Int) = 0 := h; omega
  | f + 1, L, i, x, hb, hf, h => by
    unfold numF at h ⊢
    by_cases h1 : L.length ≤ i
    · rw [if_pos h1] at h; exact absurd (show (1 : Int) = 0 from h) (by decide)
    rw [if_neg h1] at h ⊢
    by_cases h2 : i = 9 ∧ 1 < rd L (i : Int)
    · rw [if_pos h2] at h; exact absurd (show (2 : Int) = 0 from h) (by decide)
    rw [if_neg h2] at h ⊢
    by_cases h3 : 0 < i ∧ rd L (i : Int) = 0
    · rw [if_pos h3] at h; exact absurd (show (3 : Int) = 0 from h) (by decide)
    rw [if_neg h3] at h ⊢
    have hi : i < L.length := by omega
    have hg := rd_byte hb hi
    have hdr := drop_rd hi
    obtain ⟨g, hgn⟩ := Int.eq_ofNat_of_zero_le hg.1
    rw [hgn] at h h2 h3 hg hdr ⊢
    by_cases h4 : (g : Int) < 128
    · rw [if_pos h4] at h ⊢
      refine ⟨g, ?_, Nat.lt_succ_self i, ?_, fun h0 => ?_, ?_⟩
      · show x + (g : Int) % 128 * _ = _
        rw [show (g : Int) % 128 = g by omega]
      · show (L.drop i).take (i + 1 - i) = _
        rw [show i + 1 - i = 1 by omega, hdr, putN, if_pos (by omega)]; rfl
      · rcases Nat.eq_zero_or_pos g with h | h
        · exact absurd ⟨h0, by omega⟩ h3
        · exact h
      · rcases Nat.lt_or_ge i 9 with h9 | h9
        · exact Nat.lt_of_lt_of_le (show g < 2 ^ 8 by omega) (Nat.pow_le_pow_right (by decide) (by omega))
        · have : i = 9 := by omega
          subst this
          have : ¬ (1 : Int) < g := fun h => h2 ⟨rfl, h⟩
          show g < 2 ^ 1
          omega
    · rw [if_neg h4] at h ⊢
      obtain ⟨y, e1, e2, e3, e4, e5⟩ := numF_inv f L (i + 1) _ hb (by omega) h
      have hy := e4 (by omega)
      have hi8 : i ≤ 8 := by
        rcases Nat.lt_or_ge i 9 with h9 | h9
        · omega
        · have : i = 9 := by omega
          exact absurd ⟨this, by omega⟩ h2
      generalize numF f L (i + 1) (x + (g : Int) % 128 * 2 ^ (7 * i)) = R at *
      refine ⟨g % 128 + 128 * y, ?_, by omega, ?_, fun _ => by omega, ?_⟩
      · rw [e1]
        have e6 : (2 : Int) ^ (7 * (i + 1)) = 128 * 2 ^ (7 * i) := by rw [show 7 * (i + 1) = 7 * i + 7 from by omega, Int.pow_add, Int.mul_comm]; rfl
        have e7 : ((g % 128 + 128 * y : Nat) : Int) = (g : Int) % 128 + (y : Int) * 128 := by omega
        rw [e6, e7, Int.add_mul, Int.mul_assoc, Int.add_assoc]
      · have e8 : R.2.1 - i = (R.2.1 - (i + 1)) + 1 := by omega
        rw [e8, hdr, List.take_succ_cons, e3, putN, if_neg (by omega)]
        rw [show (g % 128 + 128 * y) % 128 + 128 = g by omega, show (g % 128 + 128 * y) / 128 = y by omega]
      · have e9 : 2 ^ (64 - 7 * i) = 2 ^ (64 - 7 * (i + 1)) * 128 := by rw [show 64 - 7 * i = (64 - 7 * (i + 1)) + 7 from by omega, Nat.pow_add]
        rw [e9]
        have : g % 128 < 128 := by omega
        omega
theorem numR_inv (L : List Int) (hb : Bytes L) (h : (numR L).2.2 = 0) : ∃ y : Nat, (numR L).1 = (y : Int) ∧ L.take (numR L).2.1 = putF y ∧ y < 2 ^ 64 := by
  obtain ⟨y, e1, -, e3, -, e5⟩ := numF_inv 10 L 0 0 hb rfl h
  refine ⟨y, ?_, e3, e5⟩
  have : (numR L).1 = (numF 10 L 0 0).1 := rfl
  rw [this, e1]; simp
/-- What a Parse comes to: a zookie whose payload the bytes are, or the zero zookie and an error. -/
theorem parse_back (b : List Int) (hb : Bytes b) : (∃ (y : Nat) (d : List Int), parseF b = (zkC 1 (y : Int) d, .nil) ∧ d.length = 32 ∧ Bytes d ∧ y < 2 ^ 63 ∧ payF y d = b) ∨ (∃ c a : Int, parseF b = (zk0, .fault c a) ∧ c ≠ 0) := by
  unfold parseF
  by_cases h0 : b.length = 0
  · rw [if_pos h0]; exact .inr ⟨1, 0, rfl, by decide⟩
  rw [if_neg h0]
  by_cases h1 : rd b 0 ≠ 1
  · rw [if_pos h1]; exact .inr ⟨13, 0, rfl, by decide⟩
  rw [if_neg h1]
  by_cases h2 : (numR (b.drop 1)).2.2 ≠ 0
  · rw [if_pos h2]; exact .inr ⟨_, 1, rfl, h2⟩
  rw [if_neg h2]
  by_cases h3 : (numR (b.drop 1)).1 > 9223372036854775807
  · rw [if_pos h3]; exact .inr ⟨15, 1, rfl, by decide⟩
  rw [if_neg h3]
  by_cases h4 : b.length < 1 + (numR (b.drop 1)).2.1 + 32
  · rw [if_pos h4]; exact .inr ⟨1, _, rfl, by decide⟩
  rw [if_neg h4]
  by_cases h5 : 1 + (numR (b.drop 1)).2.1 + 32 < b.length
  · rw [if_pos h5]; exact .inr ⟨16, _, rfl, by decide⟩
  rw [if_neg h5]
  obtain ⟨y, e1, e2, e3⟩ := numR_inv (b.drop 1) (fun x hx => hb x (List.mem_of_mem_drop hx)) (Decidable.not_not.1 h2)
  refine .inl ⟨y, b.drop (1 + (numR (b.drop 1)).2.1), by rw [e1], by rw [List.length_drop]; omega, fun x hx => hb x (List.mem_of_mem_drop hx), by rw [e1] at h3; omega, ?_⟩
  have h1' : rd b ((0 : Nat) : Int) = 1 := Decidable.not_not.1 h1
  have hd0 := drop_rd (L := b) (i := 0) (by omega)
  rw [List.drop_zero, h1'] at hd0
  unfold payF
  rw [← e2, ← List.drop_drop, List.take_append_drop]
  exact hd0.symm
theorem told_fault (c a : Int) (h : c ≠ 0) : toldB (.fault c a) c a = true := by
  unfold toldB
  rw [if_neg h]
  simp [Er.ok, Er.c, Er.isAt, Er.a]
theorem told_nil : toldB .nil 0 0 = true := rfl
theorem parse_told (b : List Int) (hb : Bytes b) : toldB (parseF b).2 (eC (parseF b).2) (eA (parseF b).2) = true := by
  rcases parse_back b hb with ⟨y, d, h, -⟩ | ⟨c, a, h, hc⟩
  · rw [h]; rfl
  · rw [h]; exact told_fault c a hc
/-- The text of bytes with their code is verified as the bytes are parsed. -/
theorem verF_sign (key msg : List Int) (hm : Bytes msg) : verF key (signF key msg).data.toList = parseF msg := by
  have hb : Bytes (msg ++ macF key msg) := hm.append (shaF_bytes _)
  have hl : (msg ++ macF key msg).length = msg.length + 32 := by rw [List.length_append, macF_len]
  unfold verF signF
  rw [decF_enc _ (toNat_lt hb)]
  simp only
  rw [ints_toNat hb, List.length_map, if_neg (by omega), if_neg (by omega), hl, show msg.length + 32 - 32 = msg.length by omega, List.take_left, List.drop_left, if_pos rfl]
/-- What is verified is minted. -/
theorem ver_back (key : List Int) (s : ByteArray) : (∃ (y : Nat) (d : List Int), verF key s.data.toList = (zkC 1 (y : Int) d, .nil) ∧ d.length = 32 ∧ Bytes d ∧ y < 2 ^ 63 ∧ encF ((mintF key y d).map Int.toNat) = s) ∨ (∃ c a : Int, verF key s.data.toList = (zk0, .fault c a) ∧ c ≠ 0) := by
  unfold verF
  by_cases h1 : 0 ≤ (decF s.data.toList).2
  · rw [if_pos h1]; exact .inr ⟨6, _, rfl, by decide⟩
  rw [if_neg h1]
  by_cases h2 : (decF s.data.toList).1.length < 32
  · rw [if_pos h2]; exact .inr ⟨1, _, rfl, by decide⟩
  rw [if_neg h2]
  by_cases h3 : macF key ((ints (decF s.data.toList).1).take ((decF s.data.toList).1.length - 32)) = (ints (decF s.data.toList).1).drop ((decF s.data.toList).1.length - 32)
  · rw [if_pos h3]
    have hbd := decF_bytes s.data.toList
    rcases parse_back ((ints (decF s.data.toList).1).take ((decF s.data.toList).1.length - 32)) (fun x hx => hbd x (List.mem_of_mem_take hx)) with ⟨y, d, h, hd, hdb, hy, hp⟩ | h
    · refine .inl ⟨y, d, h, hd, hdb, hy, ?_⟩
      have e : mintF key y d = ints (decF s.data.toList).1 := by
        unfold mintF
        rw [hp, h3, List.take_append_drop]
      rw [e]
      have e2 : (ints (decF s.data.toList).1).map Int.toNat = (decF s.data.toList).1 := by
        unfold ints
        rw [List.map_map]
        conv => rhs; rw [← List.map_id (decF s.data.toList).1]
        apply List.map_congr_left
        intro x _
        exact Int.toNat_natCast x
      rw [e2]
      rcases encF_dec s (by omega) with h4 | ⟨-, h4⟩
      · exact h4
      · rw [h4] at h2; exact absurd (by decide) h2
    · exact .inr h
  · rw [if_neg h3]; exact .inr ⟨12, _, rfl, by decide⟩
end Go.Proofs.YtipapffpfggmnaaDoor
