/-
  slices.Clone of bytes. Package wire's cursor: New, At, Left, End. Package wire's cursor: Take. Lemmas of package wire's numbers. Package wire's cursor: Number.
-/
import Derived.Test.YtipapffpfggmnaaDoorMBase
import Derived.Laws.Cover3
import Derived.Test.YtipapffpfggmnaaDoorMErr
namespace Go.Proofs.YtipapffpfggmnaaDoor
open Go.RowKit Go.Proofs.YtipapffpfggmnaaDoorW.PrintWords Go.Proofs.YtipapffpfggmnaaDoorW.PrintLast Go.Proofs.YtipapffpfggmnaaDoorW.PrintMore Go.Proofs.YtipapffpfggmnaaDoor.PRef
set_option linter.unusedVariables false
theorem eqlNil (w : World) (t e : TypeId) (a : Option Addr) (l c : Nat) (h : Tryd.prog.underlying t = some (.slice e)) : (binOp .eql t (.slice a l c) (.slice none 0 0)).run Tryd.prog w = .ok (.bool a.isNone) w := by
  simp [binOp, run_equal_slice_nil w t e a l c h]
theorem R_lit0 (w : World) : Kd.R (Kd.int .u8) 5 (w.alloc (.cells #[] 5)) w.heap.size (fun _ => True) (.slice (some ⟨w.heap.size, 0, none⟩) 0 0) [] := by
  have h2 := World.ownsRow_lit (base := w.heap.size) (e := 5) (size := 1) w #[] 0 (Nat.le_refl _) (by decide) rfl
  exact ⟨fun _ _ => trivial, [], h2, ⟨rfl, fun j x h => by simp at h⟩⟩
set_option maxHeartbeats 8000000 in
set_option maxRecDepth 100000 in
theorem Clone_any (A : Option Addr) (c : Nat) (l : List Int) (w : World) (hC : Kd.C (Kd.int .u8) w A l.length l) (hl : l.length ≤ 100000000) :
    Calls Tryd.prog 52 #[.slice A l.length c] w (RPostB l w) := by
  have HC := Lib.hid hC
  clear hC
  rcases A with _ | ad
  · have h0 : l = [] := by
      rcases l with _ | ⟨x, l⟩
      · rfl
      · obtain ⟨_, _, h3⟩ := HC.out
        obtain ⟨ad, ha, -⟩ := h3 (by simp)
        cases ha
    subst h0
    have hq : ∀ W, (binOp .eql 22 (.slice none 0 c) (.slice none 0 0)).run Tryd.prog W = .ok (.bool true) W := fun W => eqlNil W _ _ none 0 c Tryd.underlying22
    go_enter Tryd.func52, Tryd.ntmps52
    go_wp2_with fail
    go_ret
    exact ⟨_, rfl, Kd.R_nil _ _ _ _ _, Below.refl _ _⟩
  · have HR0 := Lib.hid (R_lit0 w)
    have hb0 := Lib.hid (below_alloc (Below.refl w.heap.size w) (.cells #[] 5))
    have hq : ∀ W, (binOp .eql 22 (.slice (some ad) l.length c) (.slice none 0 0)).run Tryd.prog W = .ok (.bool false) W := fun W => eqlNil W _ _ (some ad) l.length c Tryd.underlying22
    go_enter Tryd.func52, Tryd.ntmps52
    go_wp2_with ((with_reducible refine gate_builtin (b := .append) (xs := #[.tmp 5, .tmp 6]) rfl ?_); at_builtin; refine Kd.R_append_rows (Kd.int .u8) (w0 := w) w.heap.size rfl (.tmp 5) (.tmp 6) 22 5 (.int .u8 0) 1 rfl Tryd.underlying22 infoEB rfl (by decide) (by decide) (.slice (some ⟨w.heap.size, 0, none⟩) 0 0) [] l (some ad) l.length c (fun _ => True) (fun _ => False) rfl rfl HR0.out (Kd.C_below HC.out hb0.out) (fun _ _ h => h) (fun _ h => h.elim) (fun _ _ => trivial) hb0.out (by simp) (by simp; omega) ?_; intro v3 w3 hR3 hB3 hg3 hat3; have HR3 := Lib.hid hR3; have HB3 := Lib.hid hB3; clear hR3 hB3 hg3 hat3)
    go_ret
    exact ⟨_, rfl, HR3.out, HB3.out⟩
end Go.Proofs.YtipapffpfggmnaaDoor
namespace Go.Proofs.YtipapffpfggmnaaDoor
open Go.RowKit Go.Proofs.YtipapffpfggmnaaDoorW.PrintWords Go.Proofs.YtipapffpfggmnaaDoorW.PrintLast Go.Proofs.YtipapffpfggmnaaDoorW.PrintMore Go.Proofs.YtipapffpfggmnaaDoor.PRef
set_option linter.unusedVariables false
/-- A cursor in front of the k-th of some bytes. -/
structure Cur (p : Nat) (A : Option Addr) (c : Nat) (b : List Int) (k : Nat) (w : World) : Prop where
  hp : w.heap[p]? = some (.cells #[.slice A b.length c, .int .i64 (k : Int)] 93 (0, 0))
  hc : b.length ≤ c
  hC : Kd.C (Kd.int .u8) w A b.length b
  hne : 0 < b.length → ∀ ad, A = some ad → ad.block ≠ p
  hk : k ≤ b.length
  hl : b.length ≤ 100000000
theorem Cur.below {p : Nat} {A : Option Addr} {c : Nat} {b : List Int} {k : Nat} {w w' : World} (h : Cur p A c b k w) (hb : Below w.heap.size w w') : Cur p A c b k w' := ⟨blk_below h.hp hb, h.hc, Kd.C_below h.hC hb, h.hne, h.hk, h.hl⟩
theorem Cur.move {p : Nat} {A : Option Addr} {c : Nat} {b : List Int} {k : Nat} {w : World} (h : Cur p A c b k w) (k' : Nat) (hk : k' ≤ b.length) : Cur p A c b k' (w.setCell ⟨p, 1, none⟩ (.int .i64 (k' : Int))) := ⟨blk_set h.hp 1 _, h.hc, C_far h.hC (p := ⟨p, 1, none⟩) h.hne _, h.hne, hk, h.hl⟩
theorem eqlNilP (w : World) (a : Addr) : (binOp .eql 57 (.pointer (some a)) (.pointer none)).run Tryd.prog w = .ok (.bool false) w := by kernel_rfl
set_option maxHeartbeats 8000000 in
set_option maxRecDepth 100000 in
theorem At_any {p : Nat} {A : Option Addr} {c : Nat} {b : List Int} {k : Nat} {w : World} (h : Cur p A c b k w) :
    Calls Tryd.prog 32 #[.pointer (some ⟨p, 0, none⟩)] w fun e w' => e = .returned (.int .i64 (k : Int)) ∧ w' = w := by
  have q1 : w.cell? ⟨p, 1, none⟩ = some (.int .i64 (k : Int)) := blk_cell h.hp 1
  clear h
  go_enter Tryd.func32, Tryd.ntmps32
  go_wp2_with fail
  go_ret
  exact ⟨rfl, rfl⟩
set_option maxHeartbeats 8000000 in
set_option maxRecDepth 100000 in
theorem Left_any {p : Nat} {A : Option Addr} {c : Nat} {b : List Int} {k : Nat} {w : World} (h : Cur p A c b k w) :
    Calls Tryd.prog 53 #[.pointer (some ⟨p, 0, none⟩)] w fun e w' => e = .returned (.int .i64 ((b.length - k : Nat) : Int)) ∧ Drawn0 w w' := by
  have q0 : w.cell? ⟨p, 0, none⟩ = some (.slice A b.length c) := blk_cell h.hp 0
  have q1 : w.cell? ⟨p, 1, none⟩ = some (.int .i64 (k : Int)) := blk_cell h.hp 1
  have hk := h.hk
  have hl := h.hl
  have hlm := Kd.C_max h.hC
  clear h
  go_enter Tryd.func53, Tryd.ntmps53
  go_wp2_with fail
  repeat (go_quiet (fail); try go_wp2)
  go_ret
  exact ⟨by rw [show ((b.length - k : Nat) : Int) = (b.length : Int) - k from by omega]; rfl, by repeat (first | exact Drawn0.refl _ | apply Drawn0.step)⟩
def endEr (k n : Nat) : Er := if k < n then .code 16 else .nil
theorem Cur.drawn {p : Nat} {A : Option Addr} {c : Nat} {b : List Int} {k : Nat} {w w' : World} (h : Cur p A c b k w) (hd : Drawn0 w w') : Cur p A c b k w' := h.below hd.below
set_option maxHeartbeats 8000000 in
set_option maxRecDepth 100000 in
theorem End_any {p : Nat} {A : Option Addr} {c : Nat} {b : List Int} {k : Nat} {w : World} (h : Cur p A c b k w) :
    Calls Tryd.prog 33 #[.pointer (some ⟨p, 0, none⟩)] w fun e w' => e = .returned (erW (endEr k b.length)) ∧ Drawn0 w w' := by
  have H := Lib.hid h
  have hk := h.hk
  clear h
  go_enter Tryd.func33, Tryd.ntmps33
  go_wp2_with fail
  refine (Left_any H.out).mono ?_
  rintro e1 w1 ⟨rfl, hd⟩
  have HD := Lib.hid hd
  clear hd
  by_cases hlt : k < b.length
  · have c1 : (((b.length - k : Nat) : Int) > 0) := by omega
    go_wp2_with fail
    go_ret
    exact ⟨by rw [endEr, if_pos hlt]; rfl, HD.out⟩
  · have c1 : ¬ (((b.length - k : Nat) : Int) > 0) := by omega
    go_wp2_with fail
    go_ret
    exact ⟨by rw [endEr, if_neg hlt]; rfl, HD.out⟩
set_option maxHeartbeats 8000000 in
set_option maxRecDepth 100000 in
theorem New_any (A : Option Addr) (c : Nat) (l : List Int) (w : World) (hC : Kd.C (Kd.int .u8) w A l.length l) (hl : l.length ≤ 100000000) :
    Calls Tryd.prog 27 #[.slice A l.length c] w fun e w' => ∃ p A' c', e = .returned (.pointer (some ⟨p, 0, none⟩)) ∧ Cur p A' c' l 0 w' ∧ w.heap.size ≤ p ∧ Below w.heap.size w w' := by
  have HC := Lib.hid hC
  clear hC
  go_enter Tryd.func27, Tryd.ntmps27
  go_wp2_with fail
  refine (Clone_any A c l w HC.out hl).mono ?_
  rintro e1 w1 ⟨v, rfl, hR, hb⟩
  obtain ⟨A', c', rfl, hc', hC'⟩ := Kd.R_reads hR
  have HC' := Lib.hid hC'
  have HB := Lib.hid hb
  clear hR hC' hb
  go_wp2_with fail
  go_ret
  refine ⟨w1.heap.size, A', c', rfl, ⟨heap_alloc_last _ _, hc', Kd.C_below HC'.out (below_alloc (Below.refl _ _) _), fun h ad ha => ?_, by omega, hl⟩, HB.out.size, HB.out.alloc HB.out.size _⟩
  have := C_lt HC'.out h ad ha
  omega
end Go.Proofs.YtipapffpfggmnaaDoor
namespace Go.Proofs.YtipapffpfggmnaaDoor
open Go.RowKit Go.Proofs.YtipapffpfggmnaaDoorW.PrintWords Go.Proofs.YtipapffpfggmnaaDoorW.PrintLast Go.Proofs.YtipapffpfggmnaaDoorW.PrintMore Go.Proofs.YtipapffpfggmnaaDoor.PRef
set_option linter.unusedVariables false
set_option maxHeartbeats 8000000 in
set_option maxRecDepth 100000 in
theorem Take_short {p : Nat} {A : Option Addr} {c : Nat} {b : List Int} {k : Nat} {w : World} (n : Nat) (h : Cur p A c b k w) (hn : b.length < k + n) (hn2 : n ≤ 100000000) :
    Calls Tryd.prog 30 #[.pointer (some ⟨p, 0, none⟩), .int .i64 (n : Int)] w fun e w' => e = .returned (.tuple #[.slice none 0 0, erW (.code 1)]) ∧ Drawn0 w w' := by
  have H := Lib.hid h
  have hk := h.hk
  clear h
  go_enter Tryd.func30, Tryd.ntmps30
  go_wp2_with fail
  refine (Left_any H.out).mono ?_
  rintro e1 w1 ⟨rfl, hd⟩
  have HD := Lib.hid hd
  have c1 : ((n : Int) > ((b.length - k : Nat) : Int)) := by omega
  clear hd
  go_wp2_with fail
  go_ret2
  exact ⟨rfl, HD.out⟩
theorem Cur.moveI {p : Nat} {A : Option Addr} {c : Nat} {b : List Int} {k : Nat} {w : World} (h : Cur p A c b k w) (k' : Nat) (hk : k' ≤ b.length) (m : Int) (hm : m = (k' : Int)) : Cur p A c b k' (w.setCell ⟨p, 1, none⟩ (.int .i64 m)) := by
  subst hm; exact h.move k' hk
theorem C_part {A : Option Addr} {b : List Int} {w : World} (h : Kd.C (Kd.int .u8) w A b.length b) (k n : Nat) (hn : k + n ≤ b.length) :
    Kd.C (Kd.int .u8) w (if k + n = k then A else Option.map (fun x => x.add k) A) ((b.drop k).take n).length ((b.drop k).take n) := by
  have h1 := Kd.C_take h hn
  have hl : (b.take (k + n)).length = k + n := by rw [List.length_take]; omega
  have h2 := Kd.C_drop (c := k + n) h1 (m := k) (by omega) (by omega)
  have e : (b.take (k + n)).drop k = (b.drop k).take n := by rw [List.drop_take]; congr 1; omega
  rw [e] at h2
  have e2 : k * (Kd.int IntKind.u8).sz = k := Nat.mul_one k
  rw [e2] at h2
  exact h2
set_option maxHeartbeats 8000000 in
set_option maxRecDepth 100000 in
theorem Take_any {p : Nat} {A : Option Addr} {c : Nat} {b : List Int} {k : Nat} {w : World} (n base : Nat) (h : Cur p A c b k w) (hn : k + n ≤ b.length) (h1 : base ≤ p) (h2 : base ≤ w.heap.size) :
    Calls Tryd.prog 30 #[.pointer (some ⟨p, 0, none⟩), .int .i64 (n : Int)] w fun e w' => ∃ v, e = .returned (.tuple #[v, .nilIface]) ∧ Kd.R (Kd.int .u8) 5 w' base (fun _ => True) v ((b.drop k).take n) ∧ Cur p A c b (k + n) w' ∧ Below base w w' := by
  have H := Lib.hid h
  have hk := h.hk
  have hc := h.hc
  have hl := h.hl
  have hlm := Kd.C_max h.hC
  clear h
  go_enter Tryd.func30, Tryd.ntmps30
  go_wp2_with fail
  refine (Left_any H.out).mono ?_
  rintro e1 w1 ⟨rfl, hd⟩
  have HH := Lib.hid (H.out.drawn hd)
  have HD := Lib.hid hd
  have c1 : ¬ ((n : Int) > ((b.length - k : Nat) : Int)) := by omega
  have q0 : w1.cell? ⟨p, 0, none⟩ = some (.slice A b.length c) := blk_cell HH.out.hp 0
  have q1 : w1.cell? ⟨p, 1, none⟩ = some (.int .i64 (k : Int)) := blk_cell HH.out.hp 1
  have f1 := blk_frozen HH.out.hp 1
  clear hd
  go_wp2_with fail
  go_quiet (fail)
  have hd2 : Drawn0 w (w1.drewN nq) := HD.out.step nq
  generalize w1.drewN nq = w2 at *
  have hkn : k + n - k = n := by omega
  rw [hkn]
  have HM := Lib.hid (H.out.drawn hd2)
  have HD2 := Lib.hid hd2.below
  have HCP := C_part HM.out.hC k n hn
  have hln : ((b.drop k).take n).length = n := by rw [List.length_take, List.length_drop]; omega
  have HLN := Lib.hid hln
  rw [hln] at HCP
  obtain ⟨A2, hA2⟩ : ∃ A2, A2 = (if k + n = k then A else Option.map (fun x => x.add k) A) := ⟨_, rfl⟩
  rw [← hA2] at HCP ⊢
  have hne2 : 0 < n → ∀ ad, A2 = some ad → ad.block ≠ p := fun h0 ad ha => by
    rw [hA2, if_neg (by omega)] at ha
    rcases A with _ | a0
    · cases ha
    · simp at ha
      subst ha
      rw [add_block]
      exact HM.out.hne (by omega) a0 rfl
  have HCP2 := Lib.hid HCP
  have HNE := Lib.hid hne2
  have r1 : w2.cell? ⟨p, 1, none⟩ = some (.int .i64 (k : Int)) := blk_cell HM.out.hp 1
  have g1 := blk_frozen HM.out.hp 1
  have HQ := Lib.hid (HM.out.moveI (k + n) hn ((k : Int) + (n : Int)) (by omega))
  clear hA2 HCP hne2 q0 q1 f1 hln hd2 hkn
  go_wp2_with fail
  have HW := Lib.hid (HD2.out.mono h2 |>.setCell (p := ⟨p, 1, none⟩) h1 (.int .i64 ((k : Int) + (n : Int))))
  have HC3 := Lib.hid (C_far HCP2.out (p := ⟨p, 1, none⟩) HNE.out (.int .i64 ((k : Int) + (n : Int))))
  generalize w2.setCell ⟨p, 1, none⟩ (.int .i64 ((k : Int) + (n : Int))) = w3 at *
  have HCL := Clone_any A2 n ((b.drop k).take n) w3 (by rw [HLN.out]; exact HC3.out) (by rw [HLN.out]; omega)
  rw [HLN.out] at HCL
  refine HCL.mono ?_
  rintro e4 w4 ⟨v, rfl, hR, hb⟩
  have HR := Lib.hid (Kd.R_lower hR (show base ≤ w3.heap.size by have := HW.out.size; omega))
  have HB := Lib.hid hb
  clear hR hb HCL
  go_wp2_with fail
  go_ret2
  exact ⟨v, rfl, HR.out, HQ.out.below HB.out, HW.out.trans (HB.out.mono (by have := HW.out.size; omega))⟩
end Go.Proofs.YtipapffpfggmnaaDoor
namespace Go.Proofs.YtipapffpfggmnaaDoor
open Go.RowKit Go.Proofs.YtipapffpfggmnaaDoorW.PrintWords Go.Proofs.YtipapffpfggmnaaDoorW.PrintLast Go.Proofs.YtipapffpfggmnaaDoorW.PrintMore Go.Proofs.YtipapffpfggmnaaDoor.PRef
set_option linter.unusedVariables false
theorem w64u (n : Int) (h : 0 ≤ n) (h2 : n < 2 ^ 64) : IntKind.u64.wrap n = n := by simp [IntKind.wrap, IntKind.bits, IntKind.signed]; omega
theorem or_comm64 (x y : Int) (h0 : 0 ≤ x) (h1 : x < 2 ^ 64) (h2 : 0 ≤ y) (h3 : y < 2 ^ 64) : bits .or .u64 x y = bits .or .u64 y x := by
  obtain ⟨a, rfl⟩ := Int.eq_ofNat_of_zero_le h0
  obtain ⟨b, rfl⟩ := Int.eq_ofNat_of_zero_le h2
  have ha : a < 2 ^ 64 := by omega
  have hb : b < 2 ^ 64 := by omega
  rw [(bits_nat .u64 64 (by decide) w64u a b ha hb).2, (bits_nat .u64 64 (by decide) w64u b a hb ha).2, Nat.or_comm]
theorem and127 (g : Int) (h0 : 0 ≤ g) (h1 : g < 256) : bits .and .u8 g 127 = g % 128 := bits_mask .u8 8 (by decide) wraps_u8 7 (by decide) g h0 h1
theorem numStep (x g : Int) (i : Nat) (M : Int) (hM : M = 2 ^ (7 * i)) (h0 : 0 ≤ x) (h1 : x < 2 ^ (7 * i)) (hi : i ≤ 9) (hg0 : 0 ≤ g) (hg1 : g < 256) (h9 : i = 9 → g ≤ 1) :
    bits .or .u64 x (IntKind.u64.wrap (IntKind.u64.wrap (bits .and .u8 g 127) * M)) = x + g % 128 * 2 ^ (7 * i) := by
  rw [and127 g hg0 hg1, hM, w64u (g % 128) (by omega) (by omega)]
  have hc : ((2 : Int) ^ (7 * i)) = ((2 ^ (7 * i) : Nat) : Int) := by simp
  have hq0 := Nat.two_pow_pos (7 * i)
  have hq : g % 128 * ((2 ^ (7 * i) : Nat) : Int) < 2 ^ 64 ∧ 2 ^ (7 * i) ≤ 2 ^ 63 := by
    refine ⟨?_, Nat.pow_le_pow_right (by decide) (by omega)⟩
    rcases Nat.lt_or_ge i 9 with hl | hl
    · have : 2 ^ (7 * i) ≤ 2 ^ 56 := Nat.pow_le_pow_right (by decide) (by omega)
      have h2 : g % 128 * ((2 ^ (7 * i) : Nat) : Int) ≤ 127 * ((2 ^ (7 * i) : Nat) : Int) := Int.mul_le_mul_of_nonneg_right (by omega) (by omega)
      omega
    · have : i = 9 := by omega
      subst this
      have := h9 rfl
      have h2 : g % 128 * ((2 ^ (7 * 9) : Nat) : Int) ≤ 1 * ((2 ^ (7 * 9) : Nat) : Int) := Int.mul_le_mul_of_nonneg_right (by omega) (by omega)
      omega
  obtain ⟨hq1, hq2⟩ := hq
  have hp0 : 0 ≤ g % 128 * ((2 ^ (7 * i) : Nat) : Int) := Int.mul_nonneg (by omega) (by omega)
  rw [hc] at h1 ⊢
  have hx : x < 2 ^ 64 := by omega
  rw [w64u _ hp0 hq1, or_comm64 _ _ h0 hx hp0 hq1]
  rw [bits_join .u64 64 (by decide) w64u (7 * i) _ _ hp0 (by rw [hc]; exact Int.mul_emod_left _ _) hq1 h0 (by rw [hc]; exact h1) hx, Int.add_comm]
theorem numStep0 (x g : Int) (h0 : 0 ≤ x) (h1 : x < 2 ^ (7 * 0)) (hg0 : 0 ≤ g) (hg1 : g < 256) :
    bits .or .u64 x (IntKind.u64.wrap (IntKind.u64.wrap (bits .and .u8 g 127))) = x + g % 128 * 2 ^ (7 * 0) := by
  have := numStep x g 0 1 (by decide) h0 h1 (by omega) hg0 hg1 (by omega)
  rwa [Int.mul_one] at this
theorem numNext (x g : Int) (i : Nat) (h0 : 0 ≤ x) (h1 : x < 2 ^ (7 * i)) (hg0 : 0 ≤ g) : 0 ≤ x + g % 128 * 2 ^ (7 * i) ∧ x + g % 128 * 2 ^ (7 * i) < 2 ^ (7 * (i + 1)) := by
  have hc : ((2 : Int) ^ (7 * i)) = ((2 ^ (7 * i) : Nat) : Int) := by simp
  have e : (2 : Int) ^ (7 * (i + 1)) = 128 * 2 ^ (7 * i) := by rw [show 7 * (i + 1) = 7 * i + 7 from by omega, Int.pow_add, Int.mul_comm]; rfl
  have h2 : g % 128 * (2 : Int) ^ (7 * i) ≤ 127 * 2 ^ (7 * i) := Int.mul_le_mul_of_nonneg_right (by omega) (by rw [hc]; omega)
  have h3 : 0 ≤ g % 128 * (2 : Int) ^ (7 * i) := Int.mul_nonneg (by omega) (by rw [hc]; omega)
  rw [e]
  generalize (2 : Int) ^ (7 * i) = q at *
  omega
end Go.Proofs.YtipapffpfggmnaaDoor
namespace Go.Proofs.YtipapffpfggmnaaDoor
open Go.RowKit Go.Proofs.YtipapffpfggmnaaDoorW.PrintWords Go.Proofs.YtipapffpfggmnaaDoorW.PrintLast Go.Proofs.YtipapffpfggmnaaDoorW.PrintMore Go.Proofs.YtipapffpfggmnaaDoor.PRef
set_option linter.unusedVariables false
/-- The number in front of some bytes: the number, how many bytes it takes, and the code of the error. -/
def numF : Nat → List Int → Nat → Int → Int × Nat × Int
  | 0, _, _, _ => (0, 0, 2)
  | f + 1, l, i, x =>
    if l.length ≤ i then (0, 0, 1)
    else if i = 9 ∧ 1 < rd l i then (0, 0, 2)
    else if 0 < i ∧ rd l i = 0 then (0, 0, 3)
    else if rd l i < 128 then (x + rd l i % 128 * 2 ^ (7 * i), i + 1, 0)
    else numF f l (i + 1) (x + rd l i % 128 * 2 ^ (7 * i))
def numR (l : List Int) : Int × Nat × Int := numF 10 l 0 0
def codeEr (c : Int) : Er := if c = 0 then .nil else .code c
theorem rd_drop (b : List Int) (k i : Nat) : rd (b.drop k) (i : Int) = rd b ((k + i : Nat) : Int) := by
  unfold rd
  rw [Int.toNat_natCast, Int.toNat_natCast, List.getD_eq_getElem?_getD, List.getD_eq_getElem?_getD, List.getElem?_drop]
structure NumInv (L : List Int) (i : Nat) (x : Int) (w wr : World) : Prop where
  hi : i ≤ 9
  h0 : 0 ≤ x
  h1 : x < 2 ^ (7 * i)
  eq : numR L = numF (10 - i) L i x
  hd : Drawn0 w wr
set_option maxHeartbeats 8000000 in
set_option maxRecDepth 100000 in
theorem Number_any {p : Nat} {A : Option Addr} {c : Nat} {b : List Int} {k : Nat} {w : World} (base : Nat) (h : Cur p A c b k w) (h1 : base ≤ p) (h2 : base ≤ w.heap.size) (hb : Bytes b) :
    Calls Tryd.prog 31 #[.pointer (some ⟨p, 0, none⟩)] w fun e w' => e = .returned (.tuple #[.int .u64 (numR (b.drop k)).1, erW (codeEr (numR (b.drop k)).2.2)]) ∧ Cur p A c b (k + (numR (b.drop k)).2.1) w' ∧ Below base w w' := by
  have H := Lib.hid h
  have hk := h.hk
  have hl := h.hl
  clear h
  go_enter Tryd.func31, Tryd.ntmps31
  go_wp2_with fail
  go_loopw [4, 5] (fun vx vi wr => ∃ (i : Nat) (x : Int), vi = .int .i64 (i : Int) ∧ vx = .int .u64 x ∧ NumInv (b.drop k) i x w wr) (fun _ v _ => 10 - (intOf v).toNat)
  case atStart => exact ⟨0, 0, rfl, rfl, by omega, by omega, by decide, rfl, Drawn0.refl _⟩
  case round =>
    obtain ⟨i, x, rfl, rfl, hI⟩ := hrel
    have HI := Lib.hid hI
    have hi9 := hI.hi
    have hC := H.out.drawn hI.hd
    have HC := Lib.hid hC
    clear hI hC
    go_wp2_with fail
    refine (Left_any HC.out).mono ?_
    rintro e1 w1 ⟨rfl, hd1⟩
    have HD1 := Lib.hid (show Drawn0 w w1 from by
      obtain ⟨⟨n1, rfl⟩⟩ := HI.out.hd
      obtain ⟨⟨n2, rfl⟩⟩ := hd1
      exact (Drawn0.refl _ |>.step n1).step n2)
    clear hd1
    have HC1 := Lib.hid (H.out.drawn HD1.out)
    by_cases hlt : k + i < b.length
    · have c1 : ¬ ((i : Int) ≥ ((b.length - k : Nat) : Int)) := by omega
      obtain ⟨ad, hA, q2⟩ := Kd.at_int HC1.out.hC ((k + i : Nat) : Int) (by omega) (by omega)
      rw [Int.toNat_natCast] at q2
      have hgb := rd_byte hb hlt
      have hrd : rd (b.drop k) (i : Int) = rd b ((k + i : Nat) : Int) := rd_drop b k i
      subst hA
      have q0 : w1.cell? ⟨p, 0, none⟩ = some (.slice (some ad) b.length c) := blk_cell HC1.out.hp 0
      have q1 : w1.cell? ⟨p, 1, none⟩ = some (.int .i64 (k : Int)) := blk_cell HC1.out.hp 1
      have hst : numR (b.drop k) = if i = 9 ∧ 1 < rd b ((k + i : Nat) : Int) then (0, 0, 2) else if 0 < i ∧ rd b ((k + i : Nat) : Int) = 0 then (0, 0, 3) else if rd b ((k + i : Nat) : Int) < 128 then (x + rd b ((k + i : Nat) : Int) % 128 * 2 ^ (7 * i), i + 1, 0) else numF (9 - i) (b.drop k) (i + 1) (x + rd b ((k + i : Nat) : Int) % 128 * 2 ^ (7 * i)) := by
        rw [HI.out.eq, show 10 - i = (9 - i) + 1 from by omega, numF, if_neg (by rw [List.length_drop]; omega), hrd]
      have HST := Lib.hid hst
      generalize rd b ((k + i : Nat) : Int) = g at *
      clear hst hrd
      go_wp2_with fail
      go_quiet (fail)
      have HD2 := Lib.hid (HD1.out.step nq)
      have HC2 := Lib.hid (H.out.drawn HD2.out)
      generalize w1.drewN nq = w2 at *
      clear q0 q1 q2
      have r1 : w2.cell? ⟨p, 1, none⟩ = some (.int .i64 (k : Int)) := blk_cell HC2.out.hp 1
      have g1 := blk_frozen HC2.out.hp 1
      by_cases h9 : i = 9
      · have c2 : (i : Int) = 9 := by omega
        by_cases hL : 1 < g
        · have c3 : g > 1 := hL
          go_wp2_with fail
          go_ret2
          rw [HST.out, if_pos ⟨h9, hL⟩]
          exact ⟨rfl, HC2.out, HD2.out.below.mono h2⟩
        · have c3 : ¬ g > 1 := hL
          have c4 : (i : Int) > 0 := by omega
          by_cases hz : g = 0
          · have c6 : g = 0 := hz
            go_wp2_with fail
            go_ret2
            rw [HST.out, if_neg (fun h => absurd h.2 (by omega)), if_pos ⟨by omega, hz⟩]
            exact ⟨rfl, HC2.out, HD2.out.below.mono h2⟩
          · have c6 : ¬ g = 0 := hz
            have HB := Lib.hid (HST.out.trans ((if_neg (fun h => absurd h.2 (by omega))).trans (if_neg (fun h => hz h.2))))
            by_cases hg : g < 128
            · have c5 : g < 128 := hg
              go_wp2_with fail
              go_ret2
              rw [HB.out, if_pos hg]
              exact ⟨by rw [numStep x g i 9223372036854775808 (by rw [h9]; decide) HI.out.h0 HI.out.h1 hi9 hgb.1 hgb.2 (fun _ => by omega)]; rfl, HC2.out.moveI (k + (i + 1)) (by omega) _ (by omega), (HD2.out.below.mono h2).setCell (p := ⟨p, 1, none⟩) h1 _⟩
            · have c5 : ¬ g < 128 := hg
              exact absurd c5 (by omega)
      · have c2 : ¬ (i : Int) = 9 := by omega
        by_cases hz : i = 0
        · have c4 : ¬ (i : Int) > 0 := by omega
          have HB := Lib.hid (HST.out.trans ((if_neg (fun h => h9 h.1)).trans (if_neg (fun h => by omega))))
          by_cases hg : g < 128
          · have c5 : g < 128 := hg
            go_wp2_with fail
            go_ret2
            rw [HB.out, if_pos hg]
            exact ⟨by have e0 := numStep0 x g HI.out.h0 (by have := HI.out.h1; rwa [hz] at this) hgb.1 hgb.2; rw [e0, hz]; rfl, HC2.out.moveI (k + (i + 1)) (by omega) _ (by omega), (HD2.out.below.mono h2).setCell (p := ⟨p, 1, none⟩) h1 _⟩
          · have c5 : ¬ g < 128 := hg
            have hnx := numNext x g i HI.out.h0 HI.out.h1 hgb.1
            go_wp2_with fail
            go_roundw
            case rel => exact ⟨i + 1, x + g % 128 * 2 ^ (7 * i), by go_num, by have e0 := numStep0 x g HI.out.h0 (by have := HI.out.h1; rwa [hz] at this) hgb.1 hgb.2; rw [e0, hz], by omega, hnx.1, hnx.2, by rw [HB.out, if_neg hg, show 10 - (i + 1) = 9 - i from by omega], HD2.out⟩
            case measure => simp [intOf]; omega
        · have c4 : (i : Int) > 0 := by omega
          by_cases hz2 : g = 0
          · have c6 : g = 0 := hz2
            go_wp2_with fail
            go_ret2
            rw [HST.out, if_neg (fun h => h9 h.1), if_pos ⟨by omega, hz2⟩]
            exact ⟨rfl, HC2.out, HD2.out.below.mono h2⟩
          · have c6 : ¬ g = 0 := hz2
            have HB := Lib.hid (HST.out.trans ((if_neg (fun h => h9 h.1)).trans (if_neg (fun h => hz2 h.2))))
            by_cases hg : g < 128
            · have c5 : g < 128 := hg
              go_wp2_with fail
              go_ret2
              rw [HB.out, if_pos hg]
              exact ⟨by rw [numStep x g i _ rfl HI.out.h0 HI.out.h1 hi9 hgb.1 hgb.2 (fun e => absurd e h9)]; rfl, HC2.out.moveI (k + (i + 1)) (by omega) _ (by omega), (HD2.out.below.mono h2).setCell (p := ⟨p, 1, none⟩) h1 _⟩
            · have c5 : ¬ g < 128 := hg
              have hnx := numNext x g i HI.out.h0 HI.out.h1 hgb.1
              go_wp2_with fail
              go_roundw
              case rel => exact ⟨i + 1, x + g % 128 * 2 ^ (7 * i), by go_num, by rw [numStep x g i _ rfl HI.out.h0 HI.out.h1 hi9 hgb.1 hgb.2 (fun e => absurd e h9)], by omega, hnx.1, hnx.2, by rw [HB.out, if_neg hg, show 10 - (i + 1) = 9 - i from by omega], HD2.out⟩
              case measure => simp [intOf]; omega
    · have c1 : ((i : Int) ≥ ((b.length - k : Nat) : Int)) := by omega
      have hr : numR (b.drop k) = (0, 0, 1) := by
        rw [HI.out.eq, show 10 - i = (9 - i) + 1 from by omega, numF, if_pos (by rw [List.length_drop]; omega)]
      have HR := Lib.hid hr
      clear hr
      go_wp2_with fail
      go_ret2
      rw [HR.out]
      exact ⟨rfl, HC1.out, HD1.out.below.mono h2⟩
end Go.Proofs.YtipapffpfggmnaaDoor
