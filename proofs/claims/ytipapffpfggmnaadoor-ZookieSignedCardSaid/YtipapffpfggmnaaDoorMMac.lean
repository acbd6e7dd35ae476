/-
  The contracts of slices.Grow and slices.Concat at []byte and at [][]byte. The contract of the closure in package mac's Sum that masks the padded key. A law for a new variable that is an array: the world behind it is a letter. The contract of package mac's Sum: it computes macF. Condition: the package-level variable sha.constants reads as its initialiser laid it. The contract of the reference's mac: it computes macF too.
-/
import Derived.Test.YtipapffpfggmnaaDoorMSha
import Derived.Test.YtipapffpfggmnaaDoorWZeros
import Derived.Deep.RegionWith
namespace Go.Proofs.YtipapffpfggmnaaDoor
open Go.RowKit Go.Proofs.YtipapffpfggmnaaDoorW.PrintWords Go.Proofs.YtipapffpfggmnaaDoorW.PrintLast Go.Proofs.YtipapffpfggmnaaDoorW.PrintMore Go.Proofs.YtipapffpfggmnaaDoor.PRef
set_option linter.unusedVariables false
/-- A slice as its three numbers. -/
def rawK : Kd (Option Addr × Nat × Nat) := Kd.scalar (fun x => .slice x.1 x.2.1 x.2.2) (fun _ => rfl)
theorem flat_succ {α : Type} (parts : List (List α)) (k : Nat) (h : k < parts.length) : (parts.take (k + 1)).flatten = (parts.take k).flatten ++ parts[k] := by
  rw [List.take_succ_eq_append_getElem h, List.flatten_append, List.flatten_singleton]
theorem flat_le' {α : Type} (parts : List (List α)) (k : Nat) : (parts.take k).flatten.length ≤ parts.flatten.length := by
  have e : parts.flatten = (parts.take k).flatten ++ (parts.drop k).flatten := by rw [← List.flatten_append, List.take_append_drop]
  rw [e, List.length_append]; omega
theorem infoEB : (Tryd.prog.info? 5).map (fun i => (i.zero, i.size, i.bytes)) = some (some (.int .u8 0), 1, 1) := by kernel_rfl
def RPostB (xs : List Int) (w : World) (e : Ending) (w' : World) : Prop := ∃ v, e = .returned v ∧ Kd.R (Kd.int .u8) 5 w' w.heap.size (fun _ => True) v xs ∧ Below w.heap.size w w'
set_option maxHeartbeats 2000000 in
set_option maxRecDepth 100000 in
theorem GrowB_any (n : Int) (w : World) (h0 : 0 ≤ n) (hn : n ≤ 1000000000000) : Calls Tryd.prog 60 #[.slice none 0 0, .int .i64 n] w (RPostB [] w) := by
  by_cases hz : 0 < n
  · have h1 : ¬ n < 0 := by omega
    have hnl := Kd.R_nil (Kd.int .u8) 5 w w.heap.size (fun _ => True)
    have HNL := Lib.hid hnl
    clear hnl
    go_enter Tryd.func60, Tryd.ntmps60
    go_wp2_with ((with_reducible refine gate_builtin (b := .append) (xs := #[.tmp 20, .tmp 21]) rfl ?_); at_builtin; refine Kd.R_append_zeros (Kd.int .u8) (w0 := w) w.heap.size rfl (.tmp 20) (.tmp 21) 22 3 5 (.int .u8 0) 1 rfl Tryd.underlying22 Tryd.underlying3 infoEB rfl (by decide) (by decide) (.slice none 0 0) [] (0 : Int) n (fun _ => True) rfl rfl rfl (fun _ _ => trivial) HNL.out h0 (Below.refl _ _) (Nat.le_refl _) (by simp; omega) ?_; intro v1 w1 hR1 hB1 hg1 hat1; obtain ⟨A1, c1, hv1⟩ := Kd.R_slice hR1; subst hv1; have HR1 := Lib.hid (Kd.R_take (m := 0) hR1 (Nat.zero_le _)); have HB1 := Lib.hid hB1; clear hR1 hB1 hg1 hat1)
    go_ret
    exact ⟨_, rfl, HR1.out, HB1.out⟩
  · have h1 : n = 0 := by omega
    subst h1
    go_enter Tryd.func60, Tryd.ntmps60
    go_wp2_with fail
    go_ret
    exact ⟨_, rfl, Kd.R_nil _ _ _ _ _, Below.refl _ _⟩
set_option maxHeartbeats 4000000 in
set_option maxRecDepth 100000 in
theorem ConcatB_any (A : Option Addr) (c : Nat) (parts : List (List Int)) (w : World) (hC : Kd.C (Kd.slice 5 (Kd.int .u8)) w A parts.length parts) (hL : parts.flatten.length ≤ 1000000000) :
    Calls Tryd.prog 44 #[.slice A parts.length c] w (RPostB parts.flatten w) := by
  have HC := Lib.hid hC
  have hlm := Kd.C_max hC
  clear hC
  go_enter Tryd.func44, Tryd.ntmps44
  go_wp2_with fail
  go_loopw [3, 11] (fun s i wr => ∃ k : Nat, k ≤ parts.length ∧ i = .int .i64 (k : Int) ∧ s = .int .i64 (((parts.take k).flatten.length : Nat) : Int) ∧ w = wr) (fun _ i _ => parts.length - (intOf i).toNat)
  case atStart => exact ⟨0, by omega, rfl, rfl, rfl⟩
  case round =>
    obtain ⟨k, hk, rfl, rfl, rfl⟩ := hrel
    by_cases hlt : k < parts.length
    · obtain ⟨ad, A', c', rfl, q0, hc', hC'⟩ := C_slice_at HC.out k hlt
      have htf : (parts.take (k + 1)).flatten.length = (parts.take k).flatten.length + (parts[k]).length := by rw [flat_succ parts k hlt, List.length_append]
      have hfl := flat_le' parts (k + 1)
      rw [htf] at hfl
      generalize (parts.take k).flatten.length = N at *
      generalize (parts[k]).length = m at *
      have HTF := Lib.hid htf
      have hN : N + m ≤ 1000000000 := by omega
      have h1 : ¬ ((N : Int) + (m : Int) < 0) := by omega
      clear hC' htf
      go_wp2_with fail
      go_roundw
      case rel => exact ⟨k + 1, by omega, by go_num, by rw [HTF.out]; go_num, by first | rfl | trivial⟩
      case measure => simp [intOf]; omega
    · have hkl : parts.take k = parts := List.take_of_length_le (by omega)
      rw [hkl]
      have hge : ¬ ((k : Int) < parts.length) := by omega
      obtain ⟨N, hN⟩ : ∃ N, N = parts.flatten.length := ⟨_, rfl⟩
      rw [← hN] at hL ⊢
      have HN := Lib.hid hN
      clear hkl hlt hk hN
      go_wp2_with fail
      refine (GrowB_any (N : Int) _ (by omega) (by omega)).mono ?_
      rintro e1 w1 ⟨v1, rfl, hR1, hB1⟩
      have HR1 := Lib.hid hR1
      have HB1 := Lib.hid hB1
      clear hR1 hB1 hge
      go_wp2_with fail
      go_loopw [6, 27] (fun v i wr => ∃ k : Nat, k ≤ parts.length ∧ i = .int .i64 (k : Int) ∧ Kd.R (Kd.int .u8) 5 wr w.heap.size (fun _ => True) v (parts.take k).flatten ∧ Below w.heap.size w wr) (fun _ i _ => parts.length - (intOf i).toNat)
      case atStart => exact ⟨0, by omega, rfl, HR1.out, HB1.out⟩
      case round =>
        obtain ⟨k2, hk, rfl, hR, hB⟩ := hrel
        have HR := Lib.hid hR
        have HB := Lib.hid hB
        clear hR hB HR1 HB1
        by_cases hlt : k2 < parts.length
        · obtain ⟨ad, A', c', rfl, q0, hc', hC'⟩ := C_slice_at HC.out k2 hlt
          have q1 := pw_cell_below HB.out q0
          have hC2 := Lib.hid (Kd.C_below hC' HB.out)
          have HTF := Lib.hid (flat_succ parts k2 hlt)
          have htl : (parts.take k2).flatten.length + (parts[k2]).length ≤ N := by
            have h1 := flat_le' parts (k2 + 1)
            rw [flat_succ parts k2 hlt, List.length_append, ← HN.out] at h1
            exact h1
          have hbs := HB.out.size
          clear q0 hC'
          go_wp2_with ((with_reducible refine gate_builtin (b := .append) (xs := #[.tmp 31, .tmp 32]) rfl ?_); at_builtin; refine Kd.R_append_rows (Kd.int .u8) (w0 := w) w.heap.size rfl (.tmp 31) (.tmp 32) 22 5 (.int .u8 0) 1 rfl Tryd.underlying22 infoEB rfl (by decide) (by decide) u6 (parts.take k2).flatten parts[k2] A' (parts[k2]).length c' (fun _ => True) (fun _ => False) rfl rfl HR.out hC2.out (fun _ _ h => h) (fun _ h => h.elim) (fun _ _ => trivial) HB.out hbs (by omega) ?_; intro v3 w3 hR3 hB3 hg3 hat3; have HR3 := Lib.hid hR3; have HB3 := Lib.hid hB3; clear hR3 hB3 hg3 hat3 q1)
          go_roundw
          case rel => exact ⟨k2 + 1, by omega, by go_num, by rw [HTF.out]; exact HR3.out, HB3.out⟩
          case measure => simp [intOf]; omega
        · have hkl : parts.take k2 = parts := List.take_of_length_le (by omega)
          rw [hkl] at HR
          have hge : ¬ ((k2 : Int) < parts.length) := by omega
          clear hkl hlt hk
          go_wp2_with fail
          go_ret
          exact ⟨_, rfl, HR.out, HB.out⟩
theorem infoES : (Tryd.prog.info? 22).map (fun i => (i.zero, i.size, i.bytes)) = some (some (.slice none 0 0), 1, 24) := by kernel_rfl
def RPostS (xs : List (Option Addr × Nat × Nat)) (w : World) (e : Ending) (w' : World) : Prop := ∃ v, e = .returned v ∧ Kd.R rawK 22 w' w.heap.size (fun _ => True) v xs ∧ Below w.heap.size w w'
set_option maxHeartbeats 2000000 in
set_option maxRecDepth 100000 in
theorem GrowS_any (n : Int) (w : World) (h0 : 0 ≤ n) (hn : n ≤ 1000000000000) : Calls Tryd.prog 65 #[.slice none 0 0, .int .i64 n] w (RPostS [] w) := by
  by_cases hz : 0 < n
  · have h1 : ¬ n < 0 := by omega
    have hnl := Kd.R_nil rawK 22 w w.heap.size (fun _ => True)
    have HNL := Lib.hid hnl
    clear hnl
    go_enter Tryd.func65, Tryd.ntmps65
    go_wp2_with ((with_reducible refine gate_builtin (b := .append) (xs := #[.tmp 20, .tmp 21]) rfl ?_); at_builtin; refine Kd.R_append_zeros rawK (w0 := w) w.heap.size rfl (.tmp 20) (.tmp 21) 77 3 22 (.slice none 0 0) 24 rfl Tryd.underlying77 Tryd.underlying3 infoES rfl (by decide) (by decide) (.slice none 0 0) [] ((none, 0, 0) : Option Addr × Nat × Nat) n (fun _ => True) rfl rfl rfl (fun _ _ => trivial) HNL.out h0 (Below.refl _ _) (Nat.le_refl _) (by simp; omega) ?_; intro v1 w1 hR1 hB1 hg1 hat1; obtain ⟨A1, c1, hv1⟩ := Kd.R_slice hR1; subst hv1; have HR1 := Lib.hid (Kd.R_take (m := 0) hR1 (Nat.zero_le _)); have HB1 := Lib.hid hB1; clear hR1 hB1 hg1 hat1)
    go_ret
    exact ⟨_, rfl, HR1.out, HB1.out⟩
  · have h1 : n = 0 := by omega
    subst h1
    go_enter Tryd.func65, Tryd.ntmps65
    go_wp2_with fail
    go_ret
    exact ⟨_, rfl, Kd.R_nil _ _ _ _ _, Below.refl _ _⟩
set_option maxHeartbeats 4000000 in
set_option maxRecDepth 100000 in
theorem ConcatS_any (A : Option Addr) (c : Nat) (parts : List (List (Option Addr × Nat × Nat))) (w : World) (hC : Kd.C (Kd.slice 22 rawK) w A parts.length parts) (hL : parts.flatten.length ≤ 1000000000) :
    Calls Tryd.prog 47 #[.slice A parts.length c] w (RPostS parts.flatten w) := by
  have HC := Lib.hid hC
  have hlm := Kd.C_max hC
  clear hC
  go_enter Tryd.func47, Tryd.ntmps47
  go_wp2_with fail
  go_loopw [3, 11] (fun s i wr => ∃ k : Nat, k ≤ parts.length ∧ i = .int .i64 (k : Int) ∧ s = .int .i64 (((parts.take k).flatten.length : Nat) : Int) ∧ w = wr) (fun _ i _ => parts.length - (intOf i).toNat)
  case atStart => exact ⟨0, by omega, rfl, rfl, rfl⟩
  case round =>
    obtain ⟨k, hk, rfl, rfl, rfl⟩ := hrel
    by_cases hlt : k < parts.length
    · obtain ⟨ad, A', c', rfl, q0, hc', hC'⟩ := C_slice_at HC.out k hlt
      have htf : (parts.take (k + 1)).flatten.length = (parts.take k).flatten.length + (parts[k]).length := by rw [flat_succ parts k hlt, List.length_append]
      have hfl := flat_le' parts (k + 1)
      rw [htf] at hfl
      generalize (parts.take k).flatten.length = N at *
      generalize (parts[k]).length = m at *
      have HTF := Lib.hid htf
      have hN : N + m ≤ 1000000000 := by omega
      have h1 : ¬ ((N : Int) + (m : Int) < 0) := by omega
      clear hC' htf
      go_wp2_with fail
      go_roundw
      case rel => exact ⟨k + 1, by omega, by go_num, by rw [HTF.out]; go_num, by first | rfl | trivial⟩
      case measure => simp [intOf]; omega
    · have hkl : parts.take k = parts := List.take_of_length_le (by omega)
      rw [hkl]
      have hge : ¬ ((k : Int) < parts.length) := by omega
      obtain ⟨N, hN⟩ : ∃ N, N = parts.flatten.length := ⟨_, rfl⟩
      rw [← hN] at hL ⊢
      have HN := Lib.hid hN
      clear hkl hlt hk hN
      go_wp2_with fail
      refine (GrowS_any (N : Int) _ (by omega) (by omega)).mono ?_
      rintro e1 w1 ⟨v1, rfl, hR1, hB1⟩
      have HR1 := Lib.hid hR1
      have HB1 := Lib.hid hB1
      clear hR1 hB1 hge
      go_wp2_with fail
      go_loopw [6, 27] (fun v i wr => ∃ k : Nat, k ≤ parts.length ∧ i = .int .i64 (k : Int) ∧ Kd.R rawK 22 wr w.heap.size (fun _ => True) v (parts.take k).flatten ∧ Below w.heap.size w wr) (fun _ i _ => parts.length - (intOf i).toNat)
      case atStart => exact ⟨0, by omega, rfl, HR1.out, HB1.out⟩
      case round =>
        obtain ⟨k2, hk, rfl, hR, hB⟩ := hrel
        have HR := Lib.hid hR
        have HB := Lib.hid hB
        clear hR hB HR1 HB1
        by_cases hlt : k2 < parts.length
        · obtain ⟨ad, A', c', rfl, q0, hc', hC'⟩ := C_slice_at HC.out k2 hlt
          have q1 := pw_cell_below HB.out q0
          have hC2 := Lib.hid (Kd.C_below hC' HB.out)
          have HTF := Lib.hid (flat_succ parts k2 hlt)
          have htl : (parts.take k2).flatten.length + (parts[k2]).length ≤ N := by
            have h1 := flat_le' parts (k2 + 1)
            rw [flat_succ parts k2 hlt, List.length_append, ← HN.out] at h1
            exact h1
          have hbs := HB.out.size
          clear q0 hC'
          go_wp2_with ((with_reducible refine gate_builtin (b := .append) (xs := #[.tmp 31, .tmp 32]) rfl ?_); at_builtin; refine Kd.R_append_rows rawK (w0 := w) w.heap.size rfl (.tmp 31) (.tmp 32) 77 22 (.slice none 0 0) 24 rfl Tryd.underlying77 infoES rfl (by decide) (by decide) u6 (parts.take k2).flatten parts[k2] A' (parts[k2]).length c' (fun _ => True) (fun _ => False) rfl rfl HR.out hC2.out (fun _ _ h => h) (fun _ h => h.elim) (fun _ _ => trivial) HB.out hbs (by omega) ?_; intro v3 w3 hR3 hB3 hg3 hat3; have HR3 := Lib.hid hR3; have HB3 := Lib.hid hB3; clear hR3 hB3 hg3 hat3 q1)
          go_roundw
          case rel => exact ⟨k2 + 1, by omega, by go_num, by rw [HTF.out]; exact HR3.out, HB3.out⟩
          case measure => simp [intOf]; omega
        · have hkl : parts.take k2 = parts := List.take_of_length_le (by omega)
          rw [hkl] at HR
          have hge : ¬ ((k2 : Int) < parts.length) := by omega
          clear hkl hlt hk
          go_wp2_with fail
          go_ret
          exact ⟨_, rfl, HR.out, HB.out⟩
end Go.Proofs.YtipapffpfggmnaaDoor
namespace Go.Proofs.YtipapffpfggmnaaDoor
open Go.RowKit Go.Proofs.YtipapffpfggmnaaDoorW.PrintWords Go.Proofs.YtipapffpfggmnaaDoorW.PrintLast Go.Proofs.YtipapffpfggmnaaDoorW.PrintMore Go.Proofs.YtipapffpfggmnaaDoor.PRef
set_option linter.unusedVariables false
def xorB (m x : Int) : Int := bits .xor .u8 x m
def xTo (m : Int) (kp : List Int) (i : Nat) : List Int := (kp.take i).map (xorB m) ++ kp.drop i
theorem xTo_len (m : Int) (kp : List Int) (i : Nat) : (xTo m kp i).length = kp.length := by
  unfold xTo; rw [List.length_append, List.length_map, List.length_take, List.length_drop]; omega
theorem xTo_rd (m : Int) (kp : List Int) (i : Nat) (h : i < kp.length) : rd (xTo m kp i) (i : Int) = rd kp (i : Int) := by
  unfold rd xTo
  rw [Int.toNat_natCast, List.getD_eq_getElem?_getD, List.getD_eq_getElem?_getD, List.getElem?_append_right (by rw [List.length_map, List.length_take]; omega), List.length_map, List.length_take, Nat.min_eq_left (by omega), Nat.sub_self, List.getElem?_drop, Nat.add_zero]
theorem xTo_set (m : Int) (kp : List Int) (i : Nat) (h : i < kp.length) : (xTo m kp i).set i (xorB m (rd kp (i : Int))) = xTo m kp (i + 1) := by
  unfold xTo
  rw [List.set_append_right _ _ (by rw [List.length_map, List.length_take]; omega), List.length_map, List.length_take, Nat.min_eq_left (by omega), Nat.sub_self, List.drop_eq_getElem_cons h, List.set_cons_zero, List.take_succ_eq_append_getElem h, List.map_append, List.map_singleton, List.append_assoc, List.singleton_append]
  congr 3
  unfold rd
  rw [Int.toNat_natCast, List.getD_eq_getElem?_getD, List.getElem?_eq_getElem h]; rfl
theorem xTo_end (m : Int) (kp : List Int) : xTo m kp kp.length = kp.map (xorB m) := by
  unfold xTo; rw [List.take_length, List.drop_length, List.append_nil]
theorem C_block {k : IntKind} {w : World} {g : Nat} {l : List Int} {t : TypeId} (h : w.heap[g]? = some (.cells (nums k l).toArray t (0, 0))) (hl : l.length ≤ 9223372036854775807) : Kd.C (Kd.int k) w (some ⟨g, 0, none⟩) l.length l := by
  refine ⟨rfl, hl, fun _ => ⟨_, rfl, fun j q hj => ⟨[.int k q], rfl, rfl, fun i u hi => ?_⟩⟩⟩
  have hi0 : i = 0 := by
    have := (List.getElem?_eq_some_iff.1 hi).1
    simp at this; exact this
  subst hi0
  have hu : u = .int k q := by simpa using hi.symm
  subst hu
  have e : j * (Kd.int k).sz + 0 = j := by show j * 1 + 0 = j; omega
  rw [e, add_plain, cell_of_row w g j _ t (0, 0) h]
  unfold nums
  rw [List.getElem?_toArray, List.getElem?_map, hj]; rfl
/-- A row of bytes in memory of the call's own. -/
def RowPost (l : List Int) (w : World) (e : Ending) (w' : World) : Prop := ∃ g t, e = .returned (.slice (some ⟨g, 0, none⟩) l.length l.length) ∧ w.heap.size ≤ g ∧ w'.heap[g]? = some (.cells (nums .u8 l).toArray t (0, 0)) ∧ Below w.heap.size w w'
structure MaskInv (w : World) (n : Nat) (L : List Int) (wr : World) : Prop where
  hO : wr.heap[n]? = some (.cells (nums .u8 L).toArray 80 (0, 0))
  hn : w.heap.size ≤ n
  bel : Below w.heap.size w wr
theorem MaskInv.cell {w : World} {n : Nat} {L L' : List Int} {wr : World} (h : MaskInv w n L wr) (i : Nat) (v : Int) (e : L.set i v = L') : MaskInv w n L' (wr.setCell ⟨n, i, none⟩ (.int .u8 v)) := by
  subst e
  have h4 := blk_set h.hO i (.int .u8 v)
  rw [nums_set] at h4
  exact ⟨h4, h.hn, h.bel.setCell h.hn _⟩
set_option maxHeartbeats 8000000 in
set_option maxRecDepth 100000 in
theorem mask_any (m : Int) (p : Nat) (kp : List Int) (w : World) (h64 : kp.length = 64) (hp : w.heap[p]? = some (.cells (nums .u8 kp).toArray 80 (0, 0))) :
    Calls Tryd.prog 46 #[.int .u8 m, .pointer (some ⟨p, 0, none⟩)] w (RowPost (kp.map (xorB m)) w) := by
  have H64 := Lib.hid h64
  have HP := Lib.hid hp
  have hi64 := Lib.hid (show (Tryd.prog.info? 80).map (·.size) = some (nums .u8 kp).toArray.size by rw [List.size_toArray, nums_length, h64]; exact i64b)
  have hsz := Lib.hid (show (64 : Nat) = (nums .u8 kp).toArray.size by rw [List.size_toArray, nums_length, h64])
  clear h64 hp
  go_enter Tryd.func46, Tryd.ntmps46
  go_wp2_with (first | ((with_reducible refine gate_dst (N := 6) rfl ?_); (refine wpList_load_row rfl 80 _ rfl _ rfl 80 _ (0, 0) _ HP.out Tryd.underlying80 rfl hi64.out ?_)) | ((with_reducible refine gate_store (t := 80) (p := 4) rfl ?_); (refine wpList_store_row rfl 80 _ _ rfl _ _ rfl rfl 80 _ (heap_alloc_last _ _) hi64.out hsz.out (oneCell_nums _ _) ?_); rw [World.setRow_alloc_new]))
  have hI0 : MaskInv w w.heap.size (xTo m kp 0) (w.alloc (.cells (nums .u8 kp).toArray 80)) := ⟨heap_alloc_last _ _, Nat.le_refl _, below_alloc (Below.refl _ _) _⟩
  have HI0 := Lib.hid hI0
  clear hI0
  obtain ⟨n, hn⟩ : ∃ n, n = w.heap.size := ⟨_, rfl⟩
  rw [← hn] at HI0 ⊢
  have HN := Lib.hid hn
  clear hn
  go_loopw [7] (fun v wr => ∃ i : Nat, i ≤ 64 ∧ v = .int .i64 (i : Int) ∧ MaskInv w n (xTo m kp i) wr) (fun v _ => 64 - (intOf v).toNat)
  case atStart => exact ⟨0, by omega, rfl, HI0.out⟩
  case round =>
    obtain ⟨i, hi, rfl, hI⟩ := hrel
    have HI := Lib.hid hI
    clear hI HI0
    by_cases hlt : i < 64
    · have hl : i < kp.length := by rw [H64.out]; exact hlt
      have q0 := cell_nums HI.out.hO i (by rw [xTo_len]; exact hl)
      rw [xTo_rd m kp i hl] at q0
      have f0 := blk_frozen HI.out.hO i
      have HS := Lib.hid (xTo_set m kp i hl)
      clear hl
      go_wp2_with fail
      go_roundw
      case rel => exact ⟨i + 1, by omega, by go_num, HI.out.cell i _ HS.out⟩
      case measure => simp [intOf]; omega
    · have hi64 : i = 64 := by omega
      have hx : xTo m kp i = kp.map (xorB m) := by rw [hi64, ← H64.out]; exact xTo_end m kp
      rw [hx] at HI
      have hge : ¬ ((i : Int) < 64) := by omega
      clear hi hlt hi64 hx
      go_wp2_with fail
      go_ret
      refine ⟨n, 80, ?_, HI.out.hn, HI.out.hO, HI.out.bel⟩
      rw [List.length_map, H64.out]; rfl
end Go.Proofs.YtipapffpfggmnaaDoor
namespace Go.Proofs.YtipapffpfggmnaaDoor
open Go.RowKit Go.Proofs.YtipapffpfggmnaaDoorW.PrintWords Go.Proofs.YtipapffpfggmnaaDoorW.PrintLast Go.Proofs.YtipapffpfggmnaaDoorW.PrintMore
theorem stopHere {p : Prop} (h : Aside0 p) : p := h.out
section
variable {P : Program} {ops : Array Oper} {rest : List Oper} {o : Oper} {a : Act} {w : World} {Q : Exit → Act → World → Prop}
theorem wpList_alloc_row (hg : o.guard = none) (t : TypeId) (ho : o.op = .alloc t) (cs : Array Value) (hz : (P.info? t).map (·.zero) = some (some (.agg cs)))
    (h : ∀ w' : World, w'.heap[w.heap.size]? = some (.cells cs t (0, 0)) → Below w.heap.size w w' → w'.heap.size = w.heap.size + 1 → wpList P ops Q rest (a.put o.dst (.pointer (some ⟨w.heap.size, 0, none⟩))) w') : wpList P ops Q (o :: rest) a w := by
  refine wpList_plain hg fun K hK => ?_
  obtain ⟨i, hi, hz2⟩ := Option.map_eq_some_iff.1 hz
  unfold Oper.wp execOp
  have hrun : (Instr.alloc t true (.tuple #[])).run P w = .ok (.pointer (some ⟨w.heap.size, 0, none⟩)) (w.alloc (.cells cs t)) := by
    simp [Instr.alloc, zeroValue, typeInfo, hi, hz2, Result.andThen, newVar, newRow, Value.cells]
  simp only [ho, Sem.run_bind, hrun, Result.andThen_ok, Sem.run_pure]
  exact hK _ _ (h _ (heap_alloc_last _ _) (below_alloc (Below.refl _ _) _) (by simp))
end
/-- A block of so many cells, which may be written. -/
def RowAt (w : World) (g n : Nat) : Prop := ∃ c t, w.heap[g]? = some (.cells c t (0, 0)) ∧ c.size = n
theorem storeCells32 {P : Program} {k : IntKind} (g : Nat) (Z : List Int) (w : World) (n : Nat) (hl : Z.length = n) (hr : RowAt w g n) : (storeCells ⟨g, 0, none⟩ (nums k Z) 0).run P w = .ok () (w.setRow g (nums k Z).toArray) := by
  obtain ⟨c, t, hg, hc⟩ := hr
  have h := run_storeCells_from (P := P) g t (nums k Z) 0 c w hg (by rw [nums_length, hl, hc]; omega) (fun v hv => by obtain ⟨y, _, rfl⟩ := List.mem_map.1 hv; rfl)
  rw [h, List.take_zero, List.nil_append]
end Go.Proofs.YtipapffpfggmnaaDoor
namespace Go.Proofs.YtipapffpfggmnaaDoor
open Go.RowKit Go.Proofs.YtipapffpfggmnaaDoorW.PrintWords Go.Proofs.YtipapffpfggmnaaDoorW.PrintLast Go.Proofs.YtipapffpfggmnaaDoorW.PrintMore Go.Proofs.YtipapffpfggmnaaDoor.PRef
set_option linter.unusedVariables false
def padK (k : List Int) : List Int := k ++ List.replicate (64 - k.length) 0
def keyF (key : List Int) : List Int := if 64 < key.length then shaF key else key
def macF (key msg : List Int) : List Int := shaF ((padK (keyF key)).map (xorB 92) ++ shaF ((padK (keyF key)).map (xorB 54) ++ msg))
theorem padK_len (k : List Int) (h : k.length ≤ 64) : (padK k).length = 64 := by unfold padK; rw [List.length_append, List.length_replicate]; omega
theorem keyF_len (key : List Int) : (keyF key).length ≤ 64 := by
  unfold keyF; split
  · rw [shaF_len]; decide
  · omega
theorem macF_len (key msg : List Int) : (macF key msg).length = 32 := shaF_len _
/-- A row of slices, each of which reads a list. -/
theorem C_rows {e : Nat} {α : Type} {d : Kd α} {w : World} {g : Nat} {t : TypeId} (xs : List (List α)) (vals : List Value) (h : w.heap[g]? = some (.cells vals.toArray t (0, 0))) (hl : xs.length ≤ 9223372036854775807)
    (hv : ∀ i, (hi : i < xs.length) → ∃ A c, vals[i]? = some (.slice A (xs[i]).length c) ∧ (xs[i]).length ≤ c ∧ d.C w A (xs[i]).length xs[i]) : (Kd.slice e d).C w (some ⟨g, 0, none⟩) xs.length xs := by
  refine ⟨rfl, hl, fun _ => ⟨_, rfl, fun j q hj => ?_⟩⟩
  obtain ⟨hj1, hj2⟩ := List.getElem?_eq_some_iff.1 hj
  obtain ⟨A, c, h1, h2, h3⟩ := hv j hj1
  rw [hj2] at h1 h2 h3
  refine ⟨[.slice A q.length c], rfl, ⟨A, c, rfl, h2, h3⟩, fun i u hi => ?_⟩
  have hi0 : i = 0 := by
    have := (List.getElem?_eq_some_iff.1 hi).1
    simp at this; exact this
  subst hi0
  have hu : u = .slice A q.length c := by simpa using hi.symm
  subst hu
  have e1 : j * (Kd.slice e d).sz + 0 = j := by show j * 1 + 0 = j; omega
  rw [e1, add_plain, cell_of_row w g j _ t (0, 0) h, List.getElem?_toArray]; exact h1
/-- What slices as three numbers read. -/
def RawRel (w : World) (raws : List (Option Addr × Nat × Nat)) (parts : List (List Int)) : Prop := raws.length = parts.length ∧ ∀ i, (hi : i < parts.length) → ∃ A c, raws[i]? = some (A, (parts[i]).length, c) ∧ (parts[i]).length ≤ c ∧ Kd.C (Kd.int .u8) w A (parts[i]).length parts[i]
theorem RawRel.below {w W : World} {raws : List (Option Addr × Nat × Nat)} {parts : List (List Int)} (h : RawRel w raws parts) (hb : Below w.heap.size w W) : RawRel W raws parts := ⟨h.1, fun i hi => by
  obtain ⟨A, c, h1, h2, h3⟩ := h.2 i hi
  exact ⟨A, c, h1, h2, Kd.C_below h3 hb⟩⟩
theorem RawRel.cons {w : World} {raws : List (Option Addr × Nat × Nat)} {parts : List (List Int)} (h : RawRel w raws parts) {A : Option Addr} {c : Nat} {p : List Int} (hc : p.length ≤ c) (hC : Kd.C (Kd.int .u8) w A p.length p) : RawRel w ((A, p.length, c) :: raws) (p :: parts) :=
  ⟨by rw [List.length_cons, List.length_cons, h.1], fun i hi => by
    cases i with
    | zero => exact ⟨A, c, rfl, hc, hC⟩
    | succ i => exact h.2 i (by simpa using hi)⟩
theorem RawRel.nil (w : World) : RawRel w [] [] := ⟨rfl, fun i hi => absurd hi (Nat.not_lt_zero _)⟩
theorem raw_read {e : Nat} {w : World} {A : Option Addr} {n : Nat} {raws : List (Option Addr × Nat × Nat)} {parts : List (List Int)} (h : rawK.C w A n raws) (hr : RawRel w raws parts) : (Kd.slice e (Kd.int .u8)).C w A n parts := by
  obtain ⟨h1, h2, h3⟩ := h
  refine ⟨hr.1.symm.trans h1, h2, fun hn => ?_⟩
  obtain ⟨ad, ha, h4⟩ := h3 hn
  refine ⟨ad, ha, fun j q hj => ?_⟩
  obtain ⟨hj1, hj2⟩ := List.getElem?_eq_some_iff.1 hj
  obtain ⟨A', c', hq, hc, hC⟩ := hr.2 j hj1
  rw [hj2] at hq hc hC
  obtain ⟨cs, hl, hK, h5⟩ := h4 j _ hq
  exact ⟨cs, hl, ⟨A', c', hK, hc, hC⟩, h5⟩
theorem raw_open {e : Nat} {w : World} : ∀ {parts : List (List Int)} {A : Option Addr} {n : Nat}, (Kd.slice e (Kd.int .u8)).C w A n parts → ∃ raws, rawK.C w A n raws ∧ RawRel w raws parts := by
  intro parts A n h
  have hn : parts.length = n := h.1
  have key : ∀ k, k ≤ parts.length → ∃ raws : List (Option Addr × Nat × Nat), raws.length = k ∧ ∀ i, (hi : i < k) → (hp : i < parts.length) → ∃ A' c', raws[i]? = some (A', (parts[i]).length, c') ∧ (parts[i]).length ≤ c' ∧ Kd.C (Kd.int .u8) w A' (parts[i]).length parts[i] ∧ ∃ ad, A = some ad ∧ w.cell? (ad.add i) = some (.slice A' (parts[i]).length c') := by
    intro k
    induction k with
    | zero => exact fun _ => ⟨[], rfl, fun i hi => absurd hi (Nat.not_lt_zero _)⟩
    | succ k ih =>
      intro hk
      obtain ⟨raws, hl, hr⟩ := ih (by omega)
      obtain ⟨ad, A', c', ha, hcell, hc', hC'⟩ := C_slice_at h k (by omega)
      refine ⟨raws ++ [(A', (parts[k]).length, c')], by rw [List.length_append, hl]; rfl, fun i hi hp => ?_⟩
      by_cases hik : i < k
      · obtain ⟨A2, c2, h1, h2, h3, h4⟩ := hr i hik hp
        exact ⟨A2, c2, by rw [List.getElem?_append_left (by omega)]; exact h1, h2, h3, h4⟩
      · have e : i = k := by omega
        subst e
        exact ⟨A', c', by rw [List.getElem?_append_right (by omega), hl, Nat.sub_self]; rfl, hc', hC', ad, ha, hcell⟩
  obtain ⟨raws, hl, hr⟩ := key parts.length (Nat.le_refl _)
  refine ⟨raws, ⟨hl.trans hn, h.2.1, fun hpos => ?_⟩, hl, fun i hi => ?_⟩
  · obtain ⟨ad, ha, _⟩ := h.2.2 hpos
    refine ⟨ad, ha, fun j q hj => ?_⟩
    have hj1 : j < parts.length := by rw [← hl]; exact (List.getElem?_eq_some_iff.1 hj).1
    obtain ⟨A', c', h1, _, _, ad', ha', hcell⟩ := hr j hj1 hj1
    rw [ha] at ha'; cases ha'
    rw [h1] at hj; cases hj
    refine ⟨[.slice A' (parts[j]).length c'], rfl, rfl, fun i u hi => ?_⟩
    have hi0 : i = 0 := by
      have := (List.getElem?_eq_some_iff.1 hi).1
      simp at this; exact this
    subst hi0
    have hu : u = .slice A' (parts[j]).length c' := by simpa using hi.symm
    subst hu
    have e1 : j * rawK.sz + 0 = j := by show j * 1 + 0 = j; omega
    rw [e1]; exact hcell
  · obtain ⟨A', c', h1, h2, h3, _⟩ := hr i hi hi
    exact ⟨A', c', h1, h2, h3⟩
theorem splice_pad (k : List Int) (h : k.length ≤ 64) : splice (nums .u8 (List.replicate 64 0)) 0 (nums .u8 k) = nums .u8 (padK k) := by
  unfold splice padK nums
  rw [List.take_zero, List.nil_append, Nat.zero_add, List.length_map, List.map_append, ← List.map_drop, List.drop_replicate]
theorem padK_bytes {k : List Int} (h : Bytes k) : Bytes (padK k) := fun x hx => by
  unfold padK at hx
  rcases List.mem_append.1 hx with hx | hx
  · exact h x hx
  · rw [(List.mem_replicate.1 hx).2]; omega
theorem C_src {k : IntKind} {w : World} {A : Option Addr} {n : Nat} {xs : List Int} (h : Kd.C (Kd.int k) w A n xs) (hn : 0 < (nums k xs).length) : ∃ ad, A = some ad ∧ ∀ j v, (nums k xs)[j]? = some v → w.cell? (ad.add j) = some v := by
  rw [nums_length] at hn
  obtain ⟨ad, ha, hc⟩ := h.2.2 (by rw [← h.1]; exact hn)
  refine ⟨ad, ha, fun j v hv => ?_⟩
  unfold nums at hv
  rw [List.getElem?_map] at hv
  cases hq : xs[j]? with
  | none => rw [hq] at hv; cases hv
  | some q =>
    rw [hq] at hv
    cases hv
    obtain ⟨cs, hl, hK, h5⟩ := hc j q hq
    have hk : cs = [.int k q] := hK
    subst hk
    have := h5 0 _ rfl
    have e1 : j * (Kd.int k).sz + 0 = j := by show j * 1 + 0 = j; omega
    rw [e1] at this; exact this
theorem rawC_block {w : World} {g : Nat} {t : TypeId} (raws : List (Option Addr × Nat × Nat)) (h : w.heap[g]? = some (.cells (raws.map fun x => Value.slice x.1 x.2.1 x.2.2).toArray t (0, 0))) (hl : raws.length ≤ 9223372036854775807) : rawK.C w (some ⟨g, 0, none⟩) raws.length raws := by
  refine ⟨rfl, hl, fun _ => ⟨_, rfl, fun j q hj => ⟨[.slice q.1 q.2.1 q.2.2], rfl, rfl, fun i u hi => ?_⟩⟩⟩
  have hi0 : i = 0 := by
    have := (List.getElem?_eq_some_iff.1 hi).1
    simp at this; exact this
  subst hi0
  have hu : u = .slice q.1 q.2.1 q.2.2 := by simpa using hi.symm
  subst hu
  have e : j * rawK.sz + 0 = j := by show j * 1 + 0 = j; omega
  rw [e, add_plain, cell_of_row w g j _ t (0, 0) h, List.getElem?_toArray, List.getElem?_map, hj]; rfl
theorem z32 : (Tryd.prog.info? 24).map (·.zero) = some (some (.agg (nums .u8 (List.replicate 32 0)).toArray)) := by kernel_rfl
theorem z64 : (Tryd.prog.info? 80).map (·.zero) = some (some (.agg (nums .u8 (List.replicate 64 0)).toArray)) := by kernel_rfl
theorem u8one : (Tryd.prog.info? 5).map (·.size) = some 1 := by kernel_rfl
def MacPost (w8 : World) (M : List Int) (e : Ending) (w' : World) : Prop := ∃ g, e = .returned (.slice (some ⟨g, 0, none⟩) 64 64) ∧ Kd.C (Kd.int .u8) w' (some ⟨g, 0, none⟩) M.length M ∧ Below w8.heap.size w8 w'
def SumPost (w8 : World) (l : List Int) (e : Ending) (w' : World) : Prop := e = .returned (.agg (nums .u8 l).toArray) ∧ Below w8.heap.size w8 w'
theorem C_lit1 {e : Nat} {w : World} {g : Nat} {t : TypeId} {A : Option Addr} {c : Nat} {l : List Int} (h : w.heap[g]? = some (.cells #[.slice A l.length c] t (0, 0))) (hc : l.length ≤ c) (hC : Kd.C (Kd.int .u8) w A l.length l) : (Kd.slice e (Kd.int .u8)).C w (some ⟨g, 0, none⟩) [l].length [l] :=
  C_rows [l] [.slice A l.length c] h (by simp) (fun i hi => by
    have : i = 0 := by simpa using hi
    subst this; exact ⟨A, c, rfl, hc, hC⟩)
theorem C_lit2 {e : Nat} {w : World} {g : Nat} {t : TypeId} {A B : Option Addr} {c b : Nat} {l m : List Int} (h : w.heap[g]? = some (.cells #[.slice A l.length c, .slice B m.length b] t (0, 0))) (hc : l.length ≤ c) (hC : Kd.C (Kd.int .u8) w A l.length l) (hb : m.length ≤ b) (hB : Kd.C (Kd.int .u8) w B m.length m) : (Kd.slice e (Kd.int .u8)).C w (some ⟨g, 0, none⟩) [l, m].length [l, m] :=
  C_rows [l, m] [.slice A l.length c, .slice B m.length b] h (by simp) (fun i hi => by
    have h2 : i < 2 := by simpa using hi
    rcases (by omega : i = 0 ∨ i = 1) with rfl | rfl
    · exact ⟨A, c, rfl, hc, hC⟩
    · exact ⟨B, b, rfl, hb, hB⟩)
set_option maxHeartbeats 8000000 in
set_option maxRecDepth 100000 in
theorem macLong_any (A : Option Addr) (c : Nat) (key : List Int) (PA : Option Addr) (pc : Nat) (parts : List (List Int)) (w : World) (hk : 64 < key.length) (hC : Kd.C (Kd.int .u8) w A key.length key) (hc : key.length ≤ c) (hL : key.length ≤ 1000000) (hP : Kd.C (Kd.slice 5 (Kd.int .u8)) w PA parts.length parts) (hpc : parts.length ≤ pc) (hnpl : parts.length ≤ 1000000) (hPL : parts.flatten.length ≤ 1000000) (hK : LaidK w) :
    Calls Tryd.prog 25 #[.slice A key.length c, .slice PA parts.length pc] w (AggPost .u8 (macF key parts.flatten) w) := by
  have HC := Lib.hid hC
  obtain ⟨raws, hraw, hrel⟩ := raw_open hP
  have hrl := hrel.1
  have hnb := Kd.C_max hraw
  have HRAW := Lib.hid hraw
  have HREL := Lib.hid hrel
  have HPL := Lib.hid hPL
  have HK := Lib.hid hK
  obtain ⟨np, hnp⟩ : ∃ n, n = parts.length := ⟨_, rfl⟩
  rw [← hnp] at HRAW hpc hrl hnb hnpl ⊢
  have HNP := Lib.hid hnp
  have HRL := Lib.hid (show raws.length = np from hrl)
  clear hP hraw hrel hrl hPL hK hnp hC
  have hk' : (64 : Int) < key.length := by omega
  go_enter Tryd.func25, Tryd.ntmps25
  go_wp2_with ((with_reducible refine gate_dst (N := 4) rfl ?_); refine wpList_alloc_row rfl 24 rfl _ z32 ?_; intro w0 hr0 hb0 hs0; have HR0 := Lib.hid hr0; have HB0 := Lib.hid hb0; clear hr0 hb0 hs0; refine stopHere ?_)
  refine ⟨?_⟩
  have h0s := HB0.out.size
  go_wp2_with fail
  have hC1 := C_lit1 (e := 5) (heap_alloc_last w0 (.cells #[.slice A key.length c] 22)) hc (Kd.C_alloc (Kd.C_below HC.out HB0.out) _)
  refine (Sum_any _ 1 [key] _ hC1 (by simp; omega) ((HK.out.below HB0.out).below (below_alloc (Below.refl _ _) _))).mono ?_
  rintro e1 w1 ⟨rfl, hb1⟩
  have hb01 := (below_alloc (Below.refl w0.heap.size w0) (.cells #[.slice A key.length c] 22)).trans (hb1.mono (by rw [World.size_alloc]; omega))
  have HB1 := Lib.hid (HB0.out.trans (hb01.mono h0s))
  have HR1 := Lib.hid (blk_below HR0.out hb01)
  clear hC1 hb1 hb01 HR0 HB0
  have hf : ([key] : List (List Int)).flatten = key := by simp
  rw [hf]
  have hkf : keyF key = shaF key := by unfold keyF; rw [if_pos hk]
  have hsl := shaF_len key
  obtain ⟨K, hKK⟩ : ∃ K, K = shaF key := ⟨_, rfl⟩
  rw [← hKK] at hsl hkf ⊢
  have HKF := Lib.hid hkf
  have hi32k := Lib.hid (show (Tryd.prog.info? 24).map (·.size) = some (nums .u8 K).toArray.size by rw [List.size_toArray, nums_length, hsl]; exact i32b)
  have hsz32 := Lib.hid (show (nums .u8 (List.replicate 32 0)).toArray.size = (nums .u8 K).toArray.size by rw [List.size_toArray, nums_length, List.size_toArray, nums_length, hsl]; rfl)
  have HSL := Lib.hid hsl
  clear hf hkf hsl hKK
  have h1s := HB1.out.size
  go_wp2_with (first | ((with_reducible refine gate_dst (N := 5) rfl ?_); refine wpList_alloc_row rfl 24 rfl _ z32 ?_; intro w2 hr2 hb2 hs2; have HRD := Lib.hid hr2; have HBD := Lib.hid hb2; clear hr2 hb2 hs2) | ((with_reducible refine gate_store (t := 24) (p := 5) rfl ?_); (refine wpList_store_row rfl 24 _ _ rfl _ _ rfl rfl 24 _ HRD.out hi32k.out hsz32.out (oneCell_nums _ _) ?_); refine stopHere ?_))
  refine ⟨?_⟩
  have HKC := Lib.hid (C_block (setRow_heap _ _ _ (nums .u8 K).toArray _ _ HRD.out) (by rw [HSL.out]; decide))
  have HB2 := Lib.hid (below_setRow ((HB1.out.trans (HBD.out.mono h1s))) h1s (nums .u8 K).toArray)
  have HR2 := Lib.hid ((setRow_other w2 w1.heap.size w.heap.size (nums .u8 K).toArray (Nat.ne_of_lt (blk_lt HR1.out))).trans (blk_below HR1.out HBD.out))
  generalize w2.setRow w1.heap.size (nums .u8 K).toArray = wa at *
  obtain ⟨nk, hnk⟩ : ∃ n, n = w1.heap.size := ⟨_, rfl⟩
  rw [← hnk] at HKC ⊢
  have hKL : K.length = 32 := HSL.out
  have hkl : K.length ≤ 64 := by omega
  clear HB1 HR1 hk hk' hnk h1s hi32k hsz32 HC HRD HBD h0s
  go_wp2_with (first | ((with_reducible refine gate_dst (N := 6) rfl ?_); refine wpList_alloc_row rfl 80 rfl _ z64 ?_; intro wb hrb hbb hsb; have HRB := Lib.hid hrb; have HBB := Lib.hid hbb; clear hrb hbb hsb) | ((with_reducible refine gate_dst (N := 18) rfl ?_); refine stopHere ?_))
  refine ⟨?_⟩
  have hcopy := Lib.hid (C_src (Kd.C_below HKC.out HBB.out))
  have hpk := padK_len K hkl
  refine wpList_copy_splice (by rfl) (.tmp 16) (.tmp 17) 22 22 (by rfl) 5 Tryd.underlying22 u8one (some ⟨wa.heap.size, 0, none⟩) (some ⟨nk, 0, none⟩) 64 64 32 32 (by rfl) (by rfl) wa.heap.size 0 (nums .u8 (List.replicate 64 0)) 80 HRB.out (nums .u8 K) (by rw [nums_length]; show _ = min _ _; omega) (fun hp => ⟨rfl, hcopy.out hp⟩) (by rw [nums_length, nums_length, List.length_replicate]; omega) (fun v hv => by obtain ⟨y, _, rfl⟩ := List.mem_map.1 hv; rfl) wa.heap.size wa HBB.out (Nat.le_refl _) ?_
  intro w2 hg2 hb2
  have hg2' : w2.heap[wa.heap.size]? = some (.cells (nums .u8 (padK K)).toArray 80 (0, 0)) := by rw [← splice_pad K hkl]; exact hg2
  have HP2 := Lib.hid hg2'
  have hws := HB2.out.size
  have hw2 : wa.heap.size < w2.heap.size := blk_lt hg2'
  have HR3 := Lib.hid (blk_below HR2.out hb2)
  have HB3 := Lib.hid (HB2.out.trans (hb2.mono hws))
  clear hg2 hg2' hb2 hcopy HR2 HB2
  obtain ⟨M1, hM1⟩ : ∃ M, M = (padK K).map (xorB 54) := ⟨_, rfl⟩
  have hm1 : M1.length = 64 := by rw [hM1, List.length_map]; exact hpk
  have HM1 := Lib.hid hM1
  have hmc := mask_any 54 wa.heap.size (padK K) w2 hpk HP2.out
  rw [← hM1] at hmc
  have HMC := Lib.hid hmc
  clear hM1 hmc
  generalize wa.heap.size = pb at *
  simp only [goInt]
  go_wp2_with fail
  refine HMC.out.mono ?_
  rintro e3 w3 ⟨g3, t3, rfl, hg3, hc3, hb3⟩
  have HC3 := Lib.hid (C_block hc3 (by omega))
  have HP3 := Lib.hid (blk_below HP2.out hb3)
  have HR4 := Lib.hid (blk_below HR3.out hb3)
  have HB4 := Lib.hid (HB3.out.trans (hb3.mono HB3.out.size))
  have h3s := hb3.size
  clear hc3 hb3 HMC HP2 HR3 HB3
  go_wp2_with fail
  have hb4 := below_alloc (below_alloc (Below.refl w3.heap.size w3) (.cells #[.slice (some ⟨g3, 0, none⟩) 64 64] 22)) (.cells #[.slice (some ⟨w3.heap.size, 0, none⟩) 1 1, .slice PA np pc] 77)
  have hq1 := (heap_alloc_old (w3.alloc (.cells #[.slice (some ⟨g3, 0, none⟩) 64 64] 22)) (.cells #[.slice (some ⟨w3.heap.size, 0, none⟩) 1 1, .slice PA np pc] 77) (by simp)).trans (heap_alloc_last w3 (.cells #[.slice (some ⟨g3, 0, none⟩) 64 64] 22))
  have hq2 := heap_alloc_last (w3.alloc (.cells #[.slice (some ⟨g3, 0, none⟩) 64 64] 22)) (.cells #[.slice (some ⟨w3.heap.size, 0, none⟩) 1 1, .slice PA np pc] 77)
  rw [World.size_alloc] at hq2
  have hr1 := rawC_block [((some ⟨g3, 0, none⟩ : Option Addr), 64, 64)] hq1 (by simp)
  have hr2 := Kd.C_below (Kd.C_below HRAW.out HB4.out) hb4
  have hcc : (Kd.slice 22 rawK).C ((w3.alloc (.cells #[.slice (some ⟨g3, 0, none⟩) 64 64] 22)).alloc (.cells #[.slice (some ⟨w3.heap.size, 0, none⟩) 1 1, .slice PA np pc] 77)) (some ⟨w3.heap.size + 1, 0, none⟩) [[((some ⟨g3, 0, none⟩ : Option Addr), 64, 64)], raws].length [[((some ⟨g3, 0, none⟩ : Option Addr), 64, 64)], raws] :=
    C_rows _ [.slice (some ⟨w3.heap.size, 0, none⟩) 1 1, .slice PA np pc] hq2 (by simp) (fun i hi => by
      have h2 : i < 2 := by simpa using hi
      have hrl := HRL.out
      rcases (by omega : i = 0 ∨ i = 1) with rfl | rfl
      · exact ⟨_, _, rfl, Nat.le_refl _, hr1⟩
      · refine ⟨PA, pc, ?_, ?_, ?_⟩
        · show some (Value.slice PA np pc) = some (Value.slice PA raws.length pc); rw [hrl]
        · show raws.length ≤ pc; omega
        · show rawK.C _ PA raws.length raws; rw [hrl]; exact hr2)
  refine (ConcatS_any _ 2 [[((some ⟨g3, 0, none⟩ : Option Addr), 64, 64)], raws] _ hcc (by have := HRL.out; simp; omega)).mono ?_
  rintro e5 w5 ⟨v5, rfl, hR5, hb5⟩
  obtain ⟨A5, c5, rfl, hc5, hC5⟩ := Kd.R_reads hR5
  have hb45 := hb4.trans (hb5.mono (by rw [World.size_alloc, World.size_alloc]; omega))
  have hrel5 : RawRel w5 ([[((some ⟨g3, 0, none⟩ : Option Addr), 64, 64)], raws].flatten) (M1 :: parts) := by
    have h := RawRel.cons (A := some ⟨g3, 0, none⟩) (c := 64) ((HREL.out.below HB4.out).below hb45) (p := M1) (by omega) (Kd.C_below HC3.out hb45)
    rw [hm1] at h
    simpa using h
  have HC5 := Lib.hid (raw_read (e := 5) hC5 hrel5)
  have hlen5 : ([[((some ⟨g3, 0, none⟩ : Option Addr), 64, 64)], raws].flatten).length = (M1 :: parts).length := hrel5.1
  rw [hlen5] at HC5 hc5 ⊢
  have HP5 := Lib.hid (blk_below HP3.out hb45)
  have HR5 := Lib.hid (blk_below HR4.out hb45)
  have HB5 := Lib.hid (HB4.out.trans (hb45.mono HB4.out.size))
  have h5s := hb45.size
  have hfl : (M1 :: parts).flatten = M1 ++ parts.flatten := rfl
  have HFL := Lib.hid hfl
  have hfb := HPL.out
  have HF5 := Lib.hid (show ((M1 :: parts).flatten).length ≤ 100000000 by rw [hfl, List.length_append]; omega)
  clear hb4 hq1 hq2 hr1 hr2 hcc hR5 hb5 hC5 hrel5 hlen5 hb45 hfl hfb HC3 HP3 HR4 HB4
  obtain ⟨n5, hn5⟩ : ∃ n, n = (M1 :: parts).length := ⟨_, rfl⟩
  have HSUM := Lib.hid (Sum_any A5 c5 (M1 :: parts) w5 HC5.out HF5.out (HK.out.below HB5.out))
  rw [← hn5] at HSUM ⊢
  clear hn5 hc5 HC5
  go_wp2_with fail
  refine HSUM.out.mono ?_
  rintro e6 w6 ⟨rfl, hb6⟩
  have HP6 := Lib.hid (blk_below HP5.out hb6)
  have HR6 := Lib.hid (blk_below HR5.out hb6)
  have HB6 := Lib.hid (HB5.out.trans (hb6.mono HB5.out.size))
  have h6s := hb6.size
  clear hb6 HSUM HP5 HR5 HB5
  rw [HFL.out]
  obtain ⟨D, hD⟩ : ∃ D, D = shaF (M1 ++ parts.flatten) := ⟨_, rfl⟩
  rw [← hD]
  have hdl : D.length = 32 := by rw [hD]; exact shaF_len _
  have HD := Lib.hid hD
  have HDL := Lib.hid hdl
  have hi32k := Lib.hid (show (Tryd.prog.info? 24).map (·.size) = some (nums .u8 D).toArray.size by rw [List.size_toArray, nums_length, hdl]; exact i32b)
  have hsz32 := Lib.hid (show (nums .u8 (List.replicate 32 0)).toArray.size = (nums .u8 D).toArray.size by rw [List.size_toArray, nums_length, List.size_toArray, nums_length, hdl]; rfl)
  clear hD hdl
  go_wp2_with (first | ((with_reducible refine gate_dst (N := 8) rfl ?_); refine wpList_alloc_row rfl 24 rfl _ z32 ?_; intro w7 hr7 hb7 hs7; have HRD := Lib.hid hr7; have HBD := Lib.hid hb7; clear hr7 hb7 hs7) | ((with_reducible refine gate_store (t := 24) (p := 8) rfl ?_); (refine wpList_store_row rfl 24 _ _ rfl _ _ rfl rfl 24 _ HRD.out hi32k.out hsz32.out (oneCell_nums _ _) ?_)))
  have HD8 := Lib.hid (setRow_heap _ _ _ (nums .u8 D).toArray _ _ HRD.out)
  have HP8 := Lib.hid ((setRow_other w7 w6.heap.size pb (nums .u8 D).toArray (Nat.ne_of_lt (blk_lt HP6.out))).trans (blk_below HP6.out HBD.out))
  have HR8 := Lib.hid ((setRow_other w7 w6.heap.size w.heap.size (nums .u8 D).toArray (Nat.ne_of_lt (blk_lt HR6.out))).trans (blk_below HR6.out HBD.out))
  have HB8 := Lib.hid (below_setRow ((HB6.out.trans (HBD.out.mono HB6.out.size))) HB6.out.size (nums .u8 D).toArray)
  clear HP6 HR6 HB6 HRD HBD hi32k hsz32 HF5
  generalize w7.setRow w6.heap.size (nums .u8 D).toArray = w8 at *
  generalize w6.heap.size = n8 at *
  obtain ⟨M2, hM2⟩ : ∃ M, M = (padK K).map (xorB 92) := ⟨_, rfl⟩
  have hm2 : M2.length = 64 := by rw [hM2, List.length_map]; exact hpk
  have HM2 := Lib.hid hM2
  have HM2L := Lib.hid hm2
  have hmc : ∀ W, Below w8.heap.size w8 W → Calls Tryd.prog 46 #[.int .u8 92, .pointer (some ⟨pb, 0, none⟩)] W (MacPost w8 M2) := fun W hW => by
    have h := mask_any 92 pb (padK K) W hpk (blk_below HP8.out hW)
    rw [← hM2] at h
    refine h.mono ?_
    rintro e9 w9 ⟨g9, t9, he, hg9, hc9, hb9⟩
    exact ⟨g9, by rw [he, hm2], C_block hc9 (by omega), hW.trans (hb9.mono hW.size)⟩
  have hsc : ∀ W g, Kd.C (Kd.int .u8) W (some ⟨g, 0, none⟩) M2.length M2 → Below w8.heap.size w8 W → Calls Tryd.prog 45 #[.slice (some ⟨W.heap.size, 0, none⟩) 2 2] (W.alloc (.cells #[.slice (some ⟨g, 0, none⟩) 64 64, .slice (some ⟨n8, 0, none⟩) 32 32] 22)) (SumPost w8 (shaF (M2 ++ D))) := fun W g hg hW => by
    have hb := below_alloc (Below.refl W.heap.size W) (.cells #[.slice (some ⟨g, 0, none⟩) 64 64, .slice (some ⟨n8, 0, none⟩) 32 32] 22)
    have hdC := C_block (blk_below HD8.out hW) (by rw [HDL.out]; decide)
    have hl := heap_alloc_last W (.cells #[.slice (some ⟨g, 0, none⟩) M2.length 64, .slice (some ⟨n8, 0, none⟩) D.length 32] 22)
    have hrow := C_lit2 (e := 5) hl (by omega) (Kd.C_below hg (below_alloc (Below.refl W.heap.size W) _)) (by rw [HDL.out]; exact Nat.le_refl _) (Kd.C_below hdC (below_alloc (Below.refl W.heap.size W) _))
    rw [hm2, HDL.out] at hrow
    have h := Sum_any (some ⟨W.heap.size, 0, none⟩) 2 [M2, D] _ hrow (by simp; have := HDL.out; omega) (((HK.out.below HB8.out).below hW).below hb)
    have hf : ([M2, D] : List (List Int)).flatten = M2 ++ D := by simp
    rw [hf] at h
    refine h.mono ?_
    rintro e9 w9 ⟨he, hb9⟩
    exact ⟨he, hW.trans ((hb.trans (hb9.mono (by rw [World.size_alloc]; omega))).mono hW.size)⟩
  have HMC2 := Lib.hid hmc
  have HSC2 := Lib.hid hsc
  have hfl := shaF_len (M2 ++ D)
  have HZ := Lib.hid (show macF key parts.flatten = shaF (M2 ++ D) by unfold macF; rw [HKF.out, ← HM1.out, ← hM2, HD.out])
  obtain ⟨Z, hZ⟩ : ∃ Z, Z = shaF (M2 ++ D) := ⟨_, rfl⟩
  rw [← hZ] at HSC2 hfl HZ
  have hi32 := Lib.hid (show (Tryd.prog.info? 24).map (·.size) = some (nums .u8 Z).toArray.size by rw [List.size_toArray, nums_length, hfl]; exact i32b)
  have hsz := Lib.hid (show (nums .u8 (List.replicate 32 0)).toArray.size = (nums .u8 Z).toArray.size by rw [List.size_toArray, nums_length, List.size_toArray, nums_length, hfl]; rfl)
  have HZL := Lib.hid hfl
  have hnl : (nums .u8 Z).length = 32 := by rw [nums_length]; exact hfl
  clear hmc hsc hM2 hm2 hm1 hfl hZ HP8 HD8 HM1 HM2 HD HDL HKC HKF HREL HPL HRAW HNP HRL HFL
  go_region_with (first | (go_at_call 46; refine (HMC2.out _ (by first | exact Below.refl _ _ | exact below_drew0 (Below.refl _ _))).mono ?_; rintro e9 w9 ⟨g9, rfl, hc9, hb9⟩; have HC9 := Lib.hid hc9; have HB9 := Lib.hid hb9; clear hc9 hb9) | (go_at_call 45; refine (HSC2.out _ _ HC9.out HB9.out).mono ?_; rintro e10 w10 ⟨rfl, hb10⟩; have hst := storeCells32 (P := Tryd.prog) (k := .u8) w.heap.size Z w10 32 HZL.out ⟨_, _, blk_below HR8.out hb10, by rw [List.size_toArray, nums_length]; rfl⟩; have HB10 := Lib.hid hb10; clear hb10))
  all_goals clear hst hnl
  all_goals go_wp2_with fail
  all_goals refine bodyPost_ret (v := .agg (nums .u8 Z).toArray) (results_cell_row Tryd.results25 _ _ _ _ _ (0, 0) _ rfl (setRow_heap _ _ _ _ _ _ (blk_below HR8.out HB10.out)) Tryd.underlying24 rfl hi32.out) rfl ⟨by rw [HZ.out], below_setRow (HB8.out.trans (HB10.out.mono HB8.out.size)) (Nat.le_refl _) _⟩
set_option maxHeartbeats 8000000 in
set_option maxRecDepth 100000 in
theorem macShort_any (A : Option Addr) (c : Nat) (key : List Int) (PA : Option Addr) (pc : Nat) (parts : List (List Int)) (w : World) (hk : ¬ 64 < key.length) (hC : Kd.C (Kd.int .u8) w A key.length key) (hc : key.length ≤ c) (hL : key.length ≤ 1000000) (hP : Kd.C (Kd.slice 5 (Kd.int .u8)) w PA parts.length parts) (hpc : parts.length ≤ pc) (hnpl : parts.length ≤ 1000000) (hPL : parts.flatten.length ≤ 1000000) (hK : LaidK w) :
    Calls Tryd.prog 25 #[.slice A key.length c, .slice PA parts.length pc] w (AggPost .u8 (macF key parts.flatten) w) := by
  have HC := Lib.hid hC
  obtain ⟨raws, hraw, hrel⟩ := raw_open hP
  have hrl := hrel.1
  have hnb := Kd.C_max hraw
  have HRAW := Lib.hid hraw
  have HREL := Lib.hid hrel
  have HPL := Lib.hid hPL
  have HK := Lib.hid hK
  obtain ⟨np, hnp⟩ : ∃ n, n = parts.length := ⟨_, rfl⟩
  rw [← hnp] at HRAW hpc hrl hnb hnpl ⊢
  have HNP := Lib.hid hnp
  have HRL := Lib.hid (show raws.length = np from hrl)
  clear hP hraw hrel hrl hPL hK hnp hC
  have hk' : ¬ (64 : Int) < key.length := by omega
  go_enter Tryd.func25, Tryd.ntmps25
  go_wp2_with ((with_reducible refine gate_dst (N := 4) rfl ?_); refine wpList_alloc_row rfl 24 rfl _ z32 ?_; intro w0 hr0 hb0 hs0; have HR0 := Lib.hid hr0; have HB0 := Lib.hid hb0; clear hr0 hb0 hs0; refine stopHere ?_)
  refine ⟨?_⟩
  have h0s := HB0.out.size
  have hkf : keyF key = key := by unfold keyF; rw [if_neg hk]
  have HKF := Lib.hid hkf
  have hkl : key.length ≤ 64 := by omega
  have HKC := Lib.hid (Kd.C_below HC.out HB0.out)
  have HR2 := Lib.hid HR0.out
  have HB2 := Lib.hid HB0.out
  obtain ⟨wa, hwa⟩ : ∃ x, x = w0 := ⟨w0, rfl⟩
  clear hkf HC h0s
  subst hwa
  go_wp2_with (first | ((with_reducible refine gate_dst (N := 6) rfl ?_); refine wpList_alloc_row rfl 80 rfl _ z64 ?_; intro wb hrb hbb hsb; have HRB := Lib.hid hrb; have HBB := Lib.hid hbb; clear hrb hbb hsb) | ((with_reducible refine gate_dst (N := 18) rfl ?_); refine stopHere ?_))
  refine ⟨?_⟩
  have hcopy := Lib.hid (C_src (Kd.C_below HKC.out HBB.out))
  have hpk := padK_len key hkl
  refine wpList_copy_splice (by rfl) (.tmp 16) (.tmp 17) 22 22 (by rfl) 5 Tryd.underlying22 u8one (some ⟨wa.heap.size, 0, none⟩) A 64 64 key.length c (by rfl) (by rfl) wa.heap.size 0 (nums .u8 (List.replicate 64 0)) 80 HRB.out (nums .u8 key) (by rw [nums_length]; show _ = min _ _; omega) (fun hp => ⟨rfl, hcopy.out hp⟩) (by rw [nums_length, nums_length, List.length_replicate]; omega) (fun v hv => by obtain ⟨y, _, rfl⟩ := List.mem_map.1 hv; rfl) wa.heap.size wa HBB.out (Nat.le_refl _) ?_
  intro w2 hg2 hb2
  have hg2' : w2.heap[wa.heap.size]? = some (.cells (nums .u8 (padK key)).toArray 80 (0, 0)) := by rw [← splice_pad key hkl]; exact hg2
  have HP2 := Lib.hid hg2'
  have hws := HB2.out.size
  have hw2 : wa.heap.size < w2.heap.size := blk_lt hg2'
  have HR3 := Lib.hid (blk_below HR2.out hb2)
  have HB3 := Lib.hid (HB2.out.trans (hb2.mono hws))
  clear hg2 hg2' hb2 hcopy HR2 HB2
  obtain ⟨M1, hM1⟩ : ∃ M, M = (padK key).map (xorB 54) := ⟨_, rfl⟩
  have hm1 : M1.length = 64 := by rw [hM1, List.length_map]; exact hpk
  have HM1 := Lib.hid hM1
  have hmc := mask_any 54 wa.heap.size (padK key) w2 hpk HP2.out
  rw [← hM1] at hmc
  have HMC := Lib.hid hmc
  clear hM1 hmc
  generalize wa.heap.size = pb at *
  simp only [goInt]
  go_wp2_with fail
  refine HMC.out.mono ?_
  rintro e3 w3 ⟨g3, t3, rfl, hg3, hc3, hb3⟩
  have HC3 := Lib.hid (C_block hc3 (by omega))
  have HP3 := Lib.hid (blk_below HP2.out hb3)
  have HR4 := Lib.hid (blk_below HR3.out hb3)
  have HB4 := Lib.hid (HB3.out.trans (hb3.mono HB3.out.size))
  have h3s := hb3.size
  clear hc3 hb3 HMC HP2 HR3 HB3
  go_wp2_with fail
  have hb4 := below_alloc (below_alloc (Below.refl w3.heap.size w3) (.cells #[.slice (some ⟨g3, 0, none⟩) 64 64] 22)) (.cells #[.slice (some ⟨w3.heap.size, 0, none⟩) 1 1, .slice PA np pc] 77)
  have hq1 := (heap_alloc_old (w3.alloc (.cells #[.slice (some ⟨g3, 0, none⟩) 64 64] 22)) (.cells #[.slice (some ⟨w3.heap.size, 0, none⟩) 1 1, .slice PA np pc] 77) (by simp)).trans (heap_alloc_last w3 (.cells #[.slice (some ⟨g3, 0, none⟩) 64 64] 22))
  have hq2 := heap_alloc_last (w3.alloc (.cells #[.slice (some ⟨g3, 0, none⟩) 64 64] 22)) (.cells #[.slice (some ⟨w3.heap.size, 0, none⟩) 1 1, .slice PA np pc] 77)
  rw [World.size_alloc] at hq2
  have hr1 := rawC_block [((some ⟨g3, 0, none⟩ : Option Addr), 64, 64)] hq1 (by simp)
  have hr2 := Kd.C_below (Kd.C_below HRAW.out HB4.out) hb4
  have hcc : (Kd.slice 22 rawK).C ((w3.alloc (.cells #[.slice (some ⟨g3, 0, none⟩) 64 64] 22)).alloc (.cells #[.slice (some ⟨w3.heap.size, 0, none⟩) 1 1, .slice PA np pc] 77)) (some ⟨w3.heap.size + 1, 0, none⟩) [[((some ⟨g3, 0, none⟩ : Option Addr), 64, 64)], raws].length [[((some ⟨g3, 0, none⟩ : Option Addr), 64, 64)], raws] :=
    C_rows _ [.slice (some ⟨w3.heap.size, 0, none⟩) 1 1, .slice PA np pc] hq2 (by simp) (fun i hi => by
      have h2 : i < 2 := by simpa using hi
      have hrl := HRL.out
      rcases (by omega : i = 0 ∨ i = 1) with rfl | rfl
      · exact ⟨_, _, rfl, Nat.le_refl _, hr1⟩
      · refine ⟨PA, pc, ?_, ?_, ?_⟩
        · show some (Value.slice PA np pc) = some (Value.slice PA raws.length pc); rw [hrl]
        · show raws.length ≤ pc; omega
        · show rawK.C _ PA raws.length raws; rw [hrl]; exact hr2)
  refine (ConcatS_any _ 2 [[((some ⟨g3, 0, none⟩ : Option Addr), 64, 64)], raws] _ hcc (by have := HRL.out; simp; omega)).mono ?_
  rintro e5 w5 ⟨v5, rfl, hR5, hb5⟩
  obtain ⟨A5, c5, rfl, hc5, hC5⟩ := Kd.R_reads hR5
  have hb45 := hb4.trans (hb5.mono (by rw [World.size_alloc, World.size_alloc]; omega))
  have hrel5 : RawRel w5 ([[((some ⟨g3, 0, none⟩ : Option Addr), 64, 64)], raws].flatten) (M1 :: parts) := by
    have h := RawRel.cons (A := some ⟨g3, 0, none⟩) (c := 64) ((HREL.out.below HB4.out).below hb45) (p := M1) (by omega) (Kd.C_below HC3.out hb45)
    rw [hm1] at h
    simpa using h
  have HC5 := Lib.hid (raw_read (e := 5) hC5 hrel5)
  have hlen5 : ([[((some ⟨g3, 0, none⟩ : Option Addr), 64, 64)], raws].flatten).length = (M1 :: parts).length := hrel5.1
  rw [hlen5] at HC5 hc5 ⊢
  have HP5 := Lib.hid (blk_below HP3.out hb45)
  have HR5 := Lib.hid (blk_below HR4.out hb45)
  have HB5 := Lib.hid (HB4.out.trans (hb45.mono HB4.out.size))
  have h5s := hb45.size
  have hfl : (M1 :: parts).flatten = M1 ++ parts.flatten := rfl
  have HFL := Lib.hid hfl
  have hfb := HPL.out
  have HF5 := Lib.hid (show ((M1 :: parts).flatten).length ≤ 100000000 by rw [hfl, List.length_append]; omega)
  clear hb4 hq1 hq2 hr1 hr2 hcc hR5 hb5 hC5 hrel5 hlen5 hb45 hfl hfb HC3 HP3 HR4 HB4
  obtain ⟨n5, hn5⟩ : ∃ n, n = (M1 :: parts).length := ⟨_, rfl⟩
  have HSUM := Lib.hid (Sum_any A5 c5 (M1 :: parts) w5 HC5.out HF5.out (HK.out.below HB5.out))
  rw [← hn5] at HSUM ⊢
  clear hn5 hc5 HC5
  go_wp2_with fail
  refine HSUM.out.mono ?_
  rintro e6 w6 ⟨rfl, hb6⟩
  have HP6 := Lib.hid (blk_below HP5.out hb6)
  have HR6 := Lib.hid (blk_below HR5.out hb6)
  have HB6 := Lib.hid (HB5.out.trans (hb6.mono HB5.out.size))
  have h6s := hb6.size
  clear hb6 HSUM HP5 HR5 HB5
  rw [HFL.out]
  obtain ⟨D, hD⟩ : ∃ D, D = shaF (M1 ++ parts.flatten) := ⟨_, rfl⟩
  rw [← hD]
  have hdl : D.length = 32 := by rw [hD]; exact shaF_len _
  have HD := Lib.hid hD
  have HDL := Lib.hid hdl
  have hi32k := Lib.hid (show (Tryd.prog.info? 24).map (·.size) = some (nums .u8 D).toArray.size by rw [List.size_toArray, nums_length, hdl]; exact i32b)
  have hsz32 := Lib.hid (show (nums .u8 (List.replicate 32 0)).toArray.size = (nums .u8 D).toArray.size by rw [List.size_toArray, nums_length, List.size_toArray, nums_length, hdl]; rfl)
  clear hD hdl
  go_wp2_with (first | ((with_reducible refine gate_dst (N := 8) rfl ?_); refine wpList_alloc_row rfl 24 rfl _ z32 ?_; intro w7 hr7 hb7 hs7; have HRD := Lib.hid hr7; have HBD := Lib.hid hb7; clear hr7 hb7 hs7) | ((with_reducible refine gate_store (t := 24) (p := 8) rfl ?_); (refine wpList_store_row rfl 24 _ _ rfl _ _ rfl rfl 24 _ HRD.out hi32k.out hsz32.out (oneCell_nums _ _) ?_)))
  have HD8 := Lib.hid (setRow_heap _ _ _ (nums .u8 D).toArray _ _ HRD.out)
  have HP8 := Lib.hid ((setRow_other w7 w6.heap.size pb (nums .u8 D).toArray (Nat.ne_of_lt (blk_lt HP6.out))).trans (blk_below HP6.out HBD.out))
  have HR8 := Lib.hid ((setRow_other w7 w6.heap.size w.heap.size (nums .u8 D).toArray (Nat.ne_of_lt (blk_lt HR6.out))).trans (blk_below HR6.out HBD.out))
  have HB8 := Lib.hid (below_setRow ((HB6.out.trans (HBD.out.mono HB6.out.size))) HB6.out.size (nums .u8 D).toArray)
  clear HP6 HR6 HB6 HRD HBD hi32k hsz32 HF5
  generalize w7.setRow w6.heap.size (nums .u8 D).toArray = w8 at *
  generalize w6.heap.size = n8 at *
  obtain ⟨M2, hM2⟩ : ∃ M, M = (padK key).map (xorB 92) := ⟨_, rfl⟩
  have hm2 : M2.length = 64 := by rw [hM2, List.length_map]; exact hpk
  have HM2 := Lib.hid hM2
  have HM2L := Lib.hid hm2
  have hmc : ∀ W, Below w8.heap.size w8 W → Calls Tryd.prog 46 #[.int .u8 92, .pointer (some ⟨pb, 0, none⟩)] W (MacPost w8 M2) := fun W hW => by
    have h := mask_any 92 pb (padK key) W hpk (blk_below HP8.out hW)
    rw [← hM2] at h
    refine h.mono ?_
    rintro e9 w9 ⟨g9, t9, he, hg9, hc9, hb9⟩
    exact ⟨g9, by rw [he, hm2], C_block hc9 (by omega), hW.trans (hb9.mono hW.size)⟩
  have hsc : ∀ W g, Kd.C (Kd.int .u8) W (some ⟨g, 0, none⟩) M2.length M2 → Below w8.heap.size w8 W → Calls Tryd.prog 45 #[.slice (some ⟨W.heap.size, 0, none⟩) 2 2] (W.alloc (.cells #[.slice (some ⟨g, 0, none⟩) 64 64, .slice (some ⟨n8, 0, none⟩) 32 32] 22)) (SumPost w8 (shaF (M2 ++ D))) := fun W g hg hW => by
    have hb := below_alloc (Below.refl W.heap.size W) (.cells #[.slice (some ⟨g, 0, none⟩) 64 64, .slice (some ⟨n8, 0, none⟩) 32 32] 22)
    have hdC := C_block (blk_below HD8.out hW) (by rw [HDL.out]; decide)
    have hl := heap_alloc_last W (.cells #[.slice (some ⟨g, 0, none⟩) M2.length 64, .slice (some ⟨n8, 0, none⟩) D.length 32] 22)
    have hrow := C_lit2 (e := 5) hl (by omega) (Kd.C_below hg (below_alloc (Below.refl W.heap.size W) _)) (by rw [HDL.out]; exact Nat.le_refl _) (Kd.C_below hdC (below_alloc (Below.refl W.heap.size W) _))
    rw [hm2, HDL.out] at hrow
    have h := Sum_any (some ⟨W.heap.size, 0, none⟩) 2 [M2, D] _ hrow (by simp; have := HDL.out; omega) (((HK.out.below HB8.out).below hW).below hb)
    have hf : ([M2, D] : List (List Int)).flatten = M2 ++ D := by simp
    rw [hf] at h
    refine h.mono ?_
    rintro e9 w9 ⟨he, hb9⟩
    exact ⟨he, hW.trans ((hb.trans (hb9.mono (by rw [World.size_alloc]; omega))).mono hW.size)⟩
  have HMC2 := Lib.hid hmc
  have HSC2 := Lib.hid hsc
  have hfl := shaF_len (M2 ++ D)
  have HZ := Lib.hid (show macF key parts.flatten = shaF (M2 ++ D) by unfold macF; rw [HKF.out, ← HM1.out, ← hM2, HD.out])
  obtain ⟨Z, hZ⟩ : ∃ Z, Z = shaF (M2 ++ D) := ⟨_, rfl⟩
  rw [← hZ] at HSC2 hfl HZ
  have hi32 := Lib.hid (show (Tryd.prog.info? 24).map (·.size) = some (nums .u8 Z).toArray.size by rw [List.size_toArray, nums_length, hfl]; exact i32b)
  have hsz := Lib.hid (show (nums .u8 (List.replicate 32 0)).toArray.size = (nums .u8 Z).toArray.size by rw [List.size_toArray, nums_length, List.size_toArray, nums_length, hfl]; rfl)
  have HZL := Lib.hid hfl
  have hnl : (nums .u8 Z).length = 32 := by rw [nums_length]; exact hfl
  clear hmc hsc hM2 hm2 hm1 hfl hZ HP8 HD8 HM1 HM2 HD HDL HKC HKF HREL HPL HRAW HNP HRL HFL
  go_region_with (first | (go_at_call 46; refine (HMC2.out _ (by first | exact Below.refl _ _ | exact below_drew0 (Below.refl _ _))).mono ?_; rintro e9 w9 ⟨g9, rfl, hc9, hb9⟩; have HC9 := Lib.hid hc9; have HB9 := Lib.hid hb9; clear hc9 hb9) | (go_at_call 45; refine (HSC2.out _ _ HC9.out HB9.out).mono ?_; rintro e10 w10 ⟨rfl, hb10⟩; have hst := storeCells32 (P := Tryd.prog) (k := .u8) w.heap.size Z w10 32 HZL.out ⟨_, _, blk_below HR8.out hb10, by rw [List.size_toArray, nums_length]; rfl⟩; have HB10 := Lib.hid hb10; clear hb10))
  all_goals clear hst hnl
  all_goals go_wp2_with fail
  all_goals refine bodyPost_ret (v := .agg (nums .u8 Z).toArray) (results_cell_row Tryd.results25 _ _ _ _ _ (0, 0) _ rfl (setRow_heap _ _ _ _ _ _ (blk_below HR8.out HB10.out)) Tryd.underlying24 rfl hi32.out) rfl ⟨by rw [HZ.out], below_setRow (HB8.out.trans (HB10.out.mono HB8.out.size)) (Nat.le_refl _) _⟩
theorem mac_any (A : Option Addr) (c : Nat) (key : List Int) (PA : Option Addr) (pc : Nat) (parts : List (List Int)) (w : World) (hC : Kd.C (Kd.int .u8) w A key.length key) (hc : key.length ≤ c) (hL : key.length ≤ 1000000) (hP : Kd.C (Kd.slice 5 (Kd.int .u8)) w PA parts.length parts) (hpc : parts.length ≤ pc) (hnpl : parts.length ≤ 1000000) (hPL : parts.flatten.length ≤ 1000000) (hK : LaidK w) :
    Calls Tryd.prog 25 #[.slice A key.length c, .slice PA parts.length pc] w (AggPost .u8 (macF key parts.flatten) w) := by
  by_cases hk : 64 < key.length
  · exact macLong_any A c key PA pc parts w hk hC hc hL hP hpc hnpl hPL hK
  · exact macShort_any A c key PA pc parts w hk hC hc hL hP hpc hnpl hPL hK
end Go.Proofs.YtipapffpfggmnaaDoor
namespace Go.Proofs.YtipapffpfggmnaaDoor
open Go.RowKit Go.Proofs.YtipapffpfggmnaaDoorW.PrintWords Go.Proofs.YtipapffpfggmnaaDoorW.PrintLast Go.Proofs.YtipapffpfggmnaaDoorW.PrintMore Go.Proofs.YtipapffpfggmnaaDoor.PRef
set_option linter.unusedVariables false
theorem xorB_byte (m x : Int) : 0 ≤ xorB m x ∧ xorB m x < 256 := by
  unfold xorB bits
  have : ∀ n : Int, IntKind.u8.wrap n = n % 256 := fun n => by simp [IntKind.wrap, IntKind.bits, IntKind.signed]
  rw [this]; omega
theorem map_xor_bytes (m : Int) (l : List Int) : Bytes (l.map (xorB m)) := fun x hx => by
  obtain ⟨y, _, rfl⟩ := List.mem_map.1 hx
  exact xorB_byte m y
theorem outP_bytes (s : List Int) : ∀ j, Bytes (outP s j)
  | 0 => fun x hx => by rw [outP, List.mem_replicate] at hx; rw [hx.2]; omega
  | j + 1 => fun x hx => by
    rw [outP] at hx
    rcases List.mem_or_eq_of_mem_set hx with hx | rfl
    · exact outP_bytes s j x hx
    · omega
theorem shaF_bytes (L : List Int) : Bytes (shaF L) := outP_bytes _ _
theorem Bytes.append {a b : List Int} (ha : Bytes a) (hb : Bytes b) : Bytes (a ++ b) := fun x hx => by
  rcases List.mem_append.1 hx with hx | hx
  · exact ha x hx
  · exact hb x hx
theorem rd_pad_in (K : List Int) (i : Nat) (h : i < K.length) : rd (padK K) (i : Int) = rd K (i : Int) := by
  unfold rd padK
  rw [Int.toNat_natCast, List.getD_eq_getElem?_getD, List.getD_eq_getElem?_getD, List.getElem?_append_left h]
theorem rd_pad_out (K : List Int) (i : Nat) (h : ¬ i < K.length) (h2 : i < 64) : rd (padK K) (i : Int) = 0 := by
  unfold rd padK
  rw [Int.toNat_natCast, List.getD_eq_getElem?_getD, List.getElem?_append_right (by omega), List.getElem?_replicate, if_pos (by omega)]; rfl
theorem take_map_succ (f : Int → Int) (l : List Int) (i : Nat) (h : i < l.length) : (l.take (i + 1)).map f = (l.take i).map f ++ [f (rd l (i : Int))] := by
  rw [List.take_succ_eq_append_getElem h, List.map_append, List.map_singleton]
  congr 2
  unfold rd
  rw [Int.toNat_natCast, List.getD_eq_getElem?_getD, List.getElem?_eq_getElem h]; rfl
structure PadInv (W : World) (K : List Int) (i : Nat) (v7 v8 : Value) (wr : World) : Prop where
  h7 : Kd.R (Kd.int .u8) 5 wr W.heap.size (fun k => True ∧ some k ≠ v8.ownBlock) v7 (((padK K).take i).map (xorB 54))
  h8 : Kd.R (Kd.int .u8) 5 wr W.heap.size (fun k => True ∧ some k ≠ v7.ownBlock) v8 (((padK K).take i).map (xorB 92))
  bel : Below W.heap.size W wr
set_option maxHeartbeats 8000000 in
set_option maxRecDepth 100000 in
theorem rmacLong_any (A : Option Addr) (c : Nat) (key : List Int) (B : Option Addr) (bc : Nat) (msg : List Int) (w : World) (hk : 64 < key.length) (hC : Kd.C (Kd.int .u8) w A key.length key) (hc : key.length ≤ c) (hL : key.length ≤ 1000000) (hky : Bytes key) (hM : Kd.C (Kd.int .u8) w B msg.length msg) (hbc : msg.length ≤ bc) (hML : msg.length ≤ 1000000) (hmy : Bytes msg) :
    Calls Tryd.prog 42 #[.slice A key.length c, .slice B msg.length bc] w (AggPost .u8 (macF key msg) w) := by
  have HC := Lib.hid hC
  have HM := Lib.hid hM
  have HKY := Lib.hid hky
  have HMY := Lib.hid hmy
  clear hC hM hky hmy
  have hk' : (64 : Int) < key.length := by omega
  go_enter Tryd.func42, Tryd.ntmps42
  go_wp2_with (first | ((with_reducible refine gate_dst (N := 4) rfl ?_); refine wpList_alloc_row rfl 24 rfl _ z32 ?_; intro w0 hr0 hb0 hs0; have HR0 := Lib.hid hr0; have HB0 := Lib.hid hb0; clear hr0 hb0 hs0) | ((with_reducible refine gate_dst (N := 14) rfl ?_); refine stopHere ?_))
  refine ⟨?_⟩
  have h0s := HB0.out.size
  have hre := R_lit_nums w0 w0.heap.size 5 .u8 [] (Nat.le_refl _) (by decide)
  have hbe := below_alloc (Below.refl w0.heap.size w0) (.cells (nums .u8 []).toArray 5)
  have hce := Kd.C_below (Kd.C_below HC.out HB0.out) hbe
  refine Kd.R_append_rows (Kd.int .u8) (w0 := w0) w0.heap.size (by rfl) (.tmp 12) (.tmp 13) 22 5 (.int .u8 0) 1 (by rfl) Tryd.underlying22 info5' rfl (by decide) (by decide) (.slice (some ⟨w0.heap.size, 0, none⟩) 0 0) [] key A key.length c (fun _ => True) (fun _ => False) (by rfl) (by rfl) hre hce (fun _ _ h => h) (fun _ h => h.elim) (fun _ _ => trivial) hbe (by simp) (by simp; omega) ?_
  intro v5 w1 hR1 hB1 hg1 hat1
  rw [List.nil_append] at hR1
  obtain ⟨A5, c5, rfl, hc5, hC5⟩ := Kd.R_reads hR1
  have HC5 := Lib.hid hC5
  have HR1 := Lib.hid (blk_below HR0.out hB1)
  have HB1 := Lib.hid (HB0.out.trans (hB1.mono h0s))
  clear hre hbe hce hR1 hB1 hg1 hat1 hC5 HR0 HB0
  go_wp2_with fail
  refine (RSum_any A5 c5 key w1 HC5.out hc5 HKY.out (by omega)).mono ?_
  rintro e2 w2 ⟨rfl, hb2⟩
  have h1s := HB1.out.size
  have HR2 := Lib.hid (blk_below HR1.out hb2)
  have HB2 := Lib.hid (HB1.out.trans (hb2.mono h1s))
  have hkf : keyF key = shaF key := by unfold keyF; rw [if_pos hk]
  have hsl := shaF_len key
  have hkb := shaF_bytes key
  obtain ⟨K, hKK⟩ : ∃ K, K = shaF key := ⟨_, rfl⟩
  rw [← hKK] at hsl hkf hkb ⊢
  have HKF := Lib.hid hkf
  have HKB := Lib.hid hkb
  have hi32k := Lib.hid (show (Tryd.prog.info? 24).map (·.size) = some (nums .u8 K).toArray.size by rw [List.size_toArray, nums_length, hsl]; exact i32b)
  have hsz32 := Lib.hid (show (nums .u8 (List.replicate 32 0)).toArray.size = (nums .u8 K).toArray.size by rw [List.size_toArray, nums_length, List.size_toArray, nums_length, hsl]; rfl)
  have HSL := Lib.hid hsl
  have h2s := HB2.out.size
  clear hb2 hkf hsl hKK hkb HR1 HB1
  go_wp2_with (first | ((with_reducible refine gate_dst (N := 6) rfl ?_); refine wpList_alloc_row rfl 24 rfl _ z32 ?_; intro w3 hr3 hb3 hs3; have HRD := Lib.hid hr3; have HBD := Lib.hid hb3; clear hr3 hb3 hs3) | ((with_reducible refine gate_store (t := 24) (p := 6) rfl ?_); (refine wpList_store_row rfl 24 _ _ rfl _ _ rfl rfl 24 _ HRD.out hi32k.out hsz32.out (oneCell_nums _ _) ?_); refine stopHere ?_))
  refine ⟨?_⟩
  have HKC := Lib.hid (C_block (setRow_heap _ _ _ (nums .u8 K).toArray _ _ HRD.out) (by rw [HSL.out]; decide))
  have HB3 := Lib.hid (below_setRow ((HB2.out.trans (HBD.out.mono h2s))) h2s (nums .u8 K).toArray)
  have HR3 := Lib.hid ((setRow_other w3 w2.heap.size w.heap.size (nums .u8 K).toArray (Nat.ne_of_lt (blk_lt HR2.out))).trans (blk_below HR2.out HBD.out))
  generalize w3.setRow w2.heap.size (nums .u8 K).toArray = wa at *
  obtain ⟨nk, hnk⟩ : ∃ n, n = w2.heap.size := ⟨_, rfl⟩
  rw [← hnk] at HKC ⊢
  have hKL : K.length = 32 := HSL.out
  have hkl : K.length ≤ 64 := by omega
  clear hk hk' hnk h1s h2s hi32k hsz32 HRD HBD h0s HC5 hc5 HR2 HB2 HC
  go_wp2_with fail
  have hpk := padK_len K hkl
  have HPK := Lib.hid hpk
  have has := HB3.out.size
  go_loopw [7, 8, 9] (fun v7 v8 v wr => ∃ i : Nat, i ≤ 64 ∧ v = .int .i64 (i : Int) ∧ PadInv wa K i v7 v8 wr) (fun _ _ v _ => 64 - (intOf v).toNat)
  case atStart => exact ⟨0, by omega, rfl, Kd.R_nil _ _ _ _ _, Kd.R_nil _ _ _ _ _, Below.refl _ _⟩
  case round =>
    obtain ⟨i, hi, rfl, hI⟩ := hrel
    have HI := Lib.hid hI
    clear hI
    by_cases hlt : i < 64
    · have hbs := HI.out.bel.size
      have hti : i < (padK K).length := by rw [HPK.out]; exact hlt
      have HT7 := Lib.hid (take_map_succ (xorB 54) (padK K) i hti)
      have HT8 := Lib.hid (take_map_succ (xorB 92) (padK K) i hti)
      have hl7 : (((padK K).take i).map (xorB 54)).length ≤ 64 := by rw [List.length_map, List.length_take]; omega
      have hl8 : (((padK K).take i).map (xorB 92)).length ≤ 64 := by rw [List.length_map, List.length_take]; omega
      have hlt' : decide ((i : Int) < 64) = true := by simp; omega
      obtain ⟨L7, hL7⟩ : ∃ L, L = ((padK K).take i).map (xorB 54) := ⟨_, rfl⟩
      obtain ⟨L8, hL8⟩ : ∃ L, L = ((padK K).take i).map (xorB 92) := ⟨_, rfl⟩
      have H7 := Lib.hid HI.out.h7
      have H8 := Lib.hid HI.out.h8
      have HBL := Lib.hid HI.out.bel
      rw [← hL7] at HT7 H7 hl7
      rw [← hL8] at HT8 H8 hl8
      clear hL7 hL8 hti hpk HI
      by_cases hin : i < K.length
      · obtain ⟨ad, hA, q0⟩ := Kd.at_int (Kd.C_below HKC.out HBL.out) (i : Int) (by omega) (by omega)
        rw [Int.toNat_natCast] at q0
        have hin' : (i : Int) < (32 : Int) := by omega
        rw [rd_pad_in K i hin] at HT7 HT8
        generalize rd K (i : Int) = x at *
        cases hA
        rw [add_plain] at q0
        go_wp2_with ((with_reducible refine gate_dst (N := 37) rfl ?_); refine stopHere ?_)
        refine ⟨?_⟩
        refine Kd.R_append (Kd.int .u8) (w0 := wa) wa.heap.size (by rfl) (.tmp 33) (.tmp 36) 22 5 (.int .u8 0) 1 (by rfl) Tryd.underlying22 info5' rfl (by decide) (by decide) u7 L7 (xorB 54 x) [.int .u8 (xorB 54 x)] (fun k => True ∧ some k ≠ u8.ownBlock) (fun _ => False) (by rfl) (by rfl) rfl (fun _ hk => hk.elim) (fun k hk => ⟨trivial, Kd.fresh_ok H8.out k hk⟩) H7.out HBL.out hbs (by omega) ?_
        intro v7 w2 hR7 hB7 hg7 hat7
        have H8' := Lib.hid (Kd.R_after H8.out hg7 hat7)
        have H7' := Lib.hid hR7
        have HB7 := Lib.hid hB7
        have h7s := hB7.size
        clear hR7 hB7 hg7 hat7 H7 H8 HBL
        go_wp2_with ((with_reducible refine gate_dst (N := 42) rfl ?_); refine stopHere ?_)
        refine ⟨?_⟩
        refine Kd.R_append (Kd.int .u8) (w0 := wa) wa.heap.size (by rfl) (.tmp 38) (.tmp 41) 22 5 (.int .u8 0) 1 (by rfl) Tryd.underlying22 info5' rfl (by decide) (by decide) u8 L8 (xorB 92 x) [.int .u8 (xorB 92 x)] (fun k => True ∧ some k ≠ v7.ownBlock) (fun _ => False) (by rfl) (by rfl) rfl (fun _ hk => hk.elim) (fun k hk => ⟨trivial, Kd.fresh_ok H7'.out k hk⟩) H8'.out HB7.out h7s (by omega) ?_
        intro v8 w3 hR8 hB8 hg8 hat8
        have H7'' := Lib.hid (Kd.R_after H7'.out hg8 hat8)
        have H8'' := Lib.hid hR8
        have HB8 := Lib.hid hB8
        clear hR8 hB8 hg8 hat8 H7' H8' HB7
        go_wp2_with fail
        go_roundw
        case rel => exact ⟨i + 1, by omega, by go_num, by rw [HT7.out]; exact H7''.out, by rw [HT8.out]; exact H8''.out, HB8.out⟩
        case measure => simp [intOf]; omega
      · have hin' : ¬ (i : Int) < (32 : Int) := by omega
        rw [rd_pad_out K i hin hlt] at HT7 HT8
        go_wp2_with ((with_reducible refine gate_dst (N := 37) rfl ?_); refine stopHere ?_)
        refine ⟨?_⟩
        refine Kd.R_append (Kd.int .u8) (w0 := wa) wa.heap.size (by rfl) (.tmp 33) (.tmp 36) 22 5 (.int .u8 0) 1 (by rfl) Tryd.underlying22 info5' rfl (by decide) (by decide) u7 L7 (xorB 54 0) [.int .u8 (xorB 54 0)] (fun k => True ∧ some k ≠ u8.ownBlock) (fun _ => False) (by rfl) (by rfl) rfl (fun _ hk => hk.elim) (fun k hk => ⟨trivial, Kd.fresh_ok H8.out k hk⟩) H7.out HBL.out hbs (by omega) ?_
        intro v7 w2 hR7 hB7 hg7 hat7
        have H8' := Lib.hid (Kd.R_after H8.out hg7 hat7)
        have H7' := Lib.hid hR7
        have HB7 := Lib.hid hB7
        have h7s := hB7.size
        clear hR7 hB7 hg7 hat7 H7 H8 HBL
        go_wp2_with ((with_reducible refine gate_dst (N := 42) rfl ?_); refine stopHere ?_)
        refine ⟨?_⟩
        refine Kd.R_append (Kd.int .u8) (w0 := wa) wa.heap.size (by rfl) (.tmp 38) (.tmp 41) 22 5 (.int .u8 0) 1 (by rfl) Tryd.underlying22 info5' rfl (by decide) (by decide) u8 L8 (xorB 92 0) [.int .u8 (xorB 92 0)] (fun k => True ∧ some k ≠ v7.ownBlock) (fun _ => False) (by rfl) (by rfl) rfl (fun _ hk => hk.elim) (fun k hk => ⟨trivial, Kd.fresh_ok H7'.out k hk⟩) H8'.out HB7.out h7s (by omega) ?_
        intro v8 w3 hR8 hB8 hg8 hat8
        have H7'' := Lib.hid (Kd.R_after H7'.out hg8 hat8)
        have H8'' := Lib.hid hR8
        have HB8 := Lib.hid hB8
        clear hR8 hB8 hg8 hat8 H7' H8' HB7
        go_wp2_with fail
        go_roundw
        case rel => exact ⟨i + 1, by omega, by go_num, by rw [HT7.out]; exact H7''.out, by rw [HT8.out]; exact H8''.out, HB8.out⟩
        case measure => simp [intOf]; omega
    · have hi64 : (padK K).take i = padK K := List.take_of_length_le (by rw [HPK.out]; omega)
      have hge : ¬ ((i : Int) < 64) := by omega
      have H7 := Lib.hid HI.out.h7
      have H8 := Lib.hid HI.out.h8
      have HBL := Lib.hid HI.out.bel
      rw [hi64] at H7 H8
      obtain ⟨M1, hM1⟩ : ∃ M, M = (padK K).map (xorB 54) := ⟨_, rfl⟩
      obtain ⟨M2, hM2⟩ : ∃ M, M = (padK K).map (xorB 92) := ⟨_, rfl⟩
      have hb1 : Bytes M1 := by rw [hM1]; exact map_xor_bytes _ _
      have hb2 : Bytes M2 := by rw [hM2]; exact map_xor_bytes _ _
      have hl1 : M1.length = 64 := by rw [hM1, List.length_map]; exact hpk
      have hl2 : M2.length = 64 := by rw [hM2, List.length_map]; exact hpk
      rw [← hM1] at H7
      rw [← hM2] at H8
      have HM1 := Lib.hid hM1
      have HM2 := Lib.hid hM2
      have HBY1 := Lib.hid hb1
      have HBY2 := Lib.hid hb2
      have HL1 := Lib.hid hl1
      have HL2 := Lib.hid hl2
      have hbs := HBL.out.size
      have hmr := Lib.hid (Kd.C_below (Kd.C_below HM.out HB3.out) HBL.out)
      clear hi64 hi hlt hM1 hM2 hb1 hb2 hl1 hl2 hpk HI
      go_wp2_with ((with_reducible refine gate_dst (N := 45) rfl ?_); refine stopHere ?_)
      refine ⟨?_⟩
      refine Kd.R_append_rows (Kd.int .u8) (w0 := wa) wa.heap.size (by rfl) (.tmp 43) (.tmp 44) 22 5 (.int .u8 0) 1 (by rfl) Tryd.underlying22 info5' rfl (by decide) (by decide) u7 M1 msg B msg.length bc (fun k => True ∧ some k ≠ u8.ownBlock) (fun _ => False) (by rfl) (by rfl) H7.out hmr.out (fun _ _ h => h) (fun _ h => h.elim) (fun k hk => ⟨trivial, Kd.fresh_ok H8.out k hk⟩) HBL.out hbs (by have := HL1.out; omega) ?_
      intro v9 w4 hR4 hB4 hg4 hat4
      have H8' := Lib.hid (Kd.R_after H8.out hg4 hat4)
      obtain ⟨A4, c4, rfl, hc4, hC4⟩ := Kd.R_reads hR4
      have HC4 := Lib.hid hC4
      have HRLT := Lib.hid (Kd.R_lt hR4)
      have HB4 := Lib.hid hB4
      have h4s := hB4.size
      clear hR4 hB4 hg4 hat4 hC4 H7 H8 HBL hmr
      have hlm : (M1 ++ msg).length ≤ 100000000 := by rw [List.length_append, HL1.out]; omega
      obtain ⟨X, hX⟩ : ∃ X, X = M1 ++ msg := ⟨_, rfl⟩
      have HXB := Lib.hid (show Bytes X by rw [hX]; exact HBY1.out.append HMY.out)
      rw [← hX] at HC4 hc4 hlm HRLT H8' ⊢
      have HX := Lib.hid hX
      clear hX
      go_wp2_with fail
      refine (RSum_any A4 c4 X w4 HC4.out hc4 HXB.out hlm).mono ?_
      rintro e5 w5 ⟨rfl, hb5⟩
      have hdl := shaF_len X
      obtain ⟨D, hD⟩ : ∃ D, D = shaF X := ⟨_, rfl⟩
      rw [← hD] at hdl ⊢
      have HDB := Lib.hid (show Bytes D by rw [hD]; exact shaF_bytes X)
      have HD := Lib.hid hD
      have HDL := Lib.hid hdl
      have H8b := Lib.hid (Kd.R_below H8'.out hb5)
      have HB5 := Lib.hid (HB4.out.trans (hb5.mono h4s))
      have HR5 := Lib.hid (blk_below (blk_below HR3.out HB4.out) hb5)
      have h5s := HB5.out.size
      have hi32k := Lib.hid (show (Tryd.prog.info? 24).map (·.size) = some (nums .u8 D).toArray.size by rw [List.size_toArray, nums_length, hdl]; exact i32b)
      have hsz32 := Lib.hid (show (nums .u8 (List.replicate 32 0)).toArray.size = (nums .u8 D).toArray.size by rw [List.size_toArray, nums_length, List.size_toArray, nums_length, hdl]; rfl)
      have h45 := hb5.size
      clear hb5 hdl hD HC4 HXB hc4 hlm H8' HB4
      go_wp2_with (first | ((with_reducible refine gate_dst (N := 11) rfl ?_); refine wpList_alloc_row rfl 24 rfl _ z32 ?_; intro w6 hr6 hb6 hs6; have HRD := Lib.hid hr6; have HBD := Lib.hid hb6; clear hr6 hb6 hs6) | ((with_reducible refine gate_store (t := 24) (p := 11) rfl ?_); (refine wpList_store_row rfl 24 _ _ rfl _ _ rfl rfl 24 _ HRD.out hi32k.out hsz32.out (oneCell_nums _ _) ?_)) | ((with_reducible refine gate_dst (N := 49) rfl ?_); refine stopHere ?_))
      refine ⟨?_⟩
      have hdC := Lib.hid (C_block (setRow_heap _ _ _ (nums .u8 D).toArray _ _ HRD.out) (by rw [HDL.out]; decide))
      have h8c := Lib.hid (Kd.R_below H8b.out (below_setRow HBD.out (Nat.le_refl _) (nums .u8 D).toArray))
      have HB6 := Lib.hid (below_setRow ((HB5.out.trans (HBD.out.mono h5s))) h5s (nums .u8 D).toArray)
      have HR6 := Lib.hid ((setRow_other w6 w5.heap.size w.heap.size (nums .u8 D).toArray (Nat.ne_of_lt (blk_lt HR5.out))).trans (blk_below HR5.out HBD.out))
      have hdn : D.length = 32 := HDL.out
      have h57 : w5.heap.size < (w6.setRow w5.heap.size (nums .u8 D).toArray).heap.size := blk_lt (setRow_heap _ _ _ (nums .u8 D).toArray _ _ HRD.out)
      clear H8b HB5 HR5 HRD HBD hi32k hsz32
      generalize w6.setRow w5.heap.size (nums .u8 D).toArray = w7 at *
      generalize w5.heap.size = n5 at *
      have h7s := HB6.out.size
      refine Kd.R_append_rows (Kd.int .u8) (w0 := wa) wa.heap.size (by rfl) (.tmp 47) (.tmp 48) 22 5 (.int .u8 0) 1 (by rfl) Tryd.underlying22 info5' rfl (by decide) (by decide) u8 M2 D (some ⟨n5, 0, none⟩) 32 32 (fun k => True ∧ some k ≠ (Value.slice A4 X.length c4).ownBlock) (fun _ => False) (by rfl) (by rfl) h8c.out (by have h := hdC.out; rw [hdn] at h; exact h) (fun _ _ h => h) (fun _ h => h.elim) (fun k hk => ⟨trivial, fun e => by have := HRLT.out k e.symm; omega⟩) HB6.out h7s (by have := HL2.out; omega) ?_
      intro v8 w8 hR8 hB8 hg8 hat8
      obtain ⟨A8, c8, rfl, hc8, hC8⟩ := Kd.R_reads hR8
      have HC8 := Lib.hid hC8
      have HB8 := Lib.hid hB8
      have HR8 := Lib.hid (blk_below HR3.out hB8)
      have h8s := hB8.size
      clear hR8 hB8 hg8 hat8 hC8 hdC h8c HB6 HR6
      have hly : (M2 ++ D).length ≤ 100000000 := by rw [List.length_append, HL2.out]; omega
      have HZ := Lib.hid (show macF key msg = shaF (M2 ++ D) by unfold macF; rw [HKF.out, ← HM1.out, ← HM2.out, ← HX.out, HD.out])
      obtain ⟨Y, hY⟩ : ∃ Y, Y = M2 ++ D := ⟨_, rfl⟩
      have HYB := Lib.hid (show Bytes Y by rw [hY]; exact HBY2.out.append HDB.out)
      rw [← hY] at HC8 hc8 hly HZ ⊢
      clear hY hdn
      go_wp2_with fail
      refine (RSum_any A8 c8 Y w8 HC8.out hc8 HYB.out hly).mono ?_
      rintro e9 w9 ⟨rfl, hb9⟩
      have hzl := shaF_len Y
      obtain ⟨Z, hZ⟩ : ∃ Z, Z = shaF Y := ⟨_, rfl⟩
      rw [← hZ] at hzl HZ ⊢
      have HR9 := Lib.hid (blk_below HR8.out hb9)
      have HB9 := Lib.hid ((HB3.out.trans (HB8.out.mono has)).trans (hb9.mono (by omega)))
      have hi32 := Lib.hid (show (Tryd.prog.info? 24).map (·.size) = some (nums .u8 Z).toArray.size by rw [List.size_toArray, nums_length, hzl]; exact i32b)
      have hsz := Lib.hid (show (nums .u8 (List.replicate 32 0)).toArray.size = (nums .u8 Z).toArray.size by rw [List.size_toArray, nums_length, List.size_toArray, nums_length, hzl]; rfl)
      clear hb9 hzl hZ
      go_wp2_with ((with_reducible refine gate_store (t := 24) (p := 4) rfl ?_); (refine wpList_store_row rfl 24 _ _ rfl _ _ rfl rfl 24 _ HR9.out hi32.out hsz.out (oneCell_nums _ _) ?_))
      refine bodyPost_ret (v := .agg (nums .u8 Z).toArray) (results_cell_row Tryd.results42 _ _ _ _ _ (0, 0) _ rfl (setRow_heap _ _ _ _ _ _ HR9.out) Tryd.underlying24 rfl hi32.out) rfl ⟨by rw [HZ.out], below_setRow HB9.out (Nat.le_refl _) _⟩
set_option maxHeartbeats 8000000 in
set_option maxRecDepth 100000 in
theorem rmacShort_any (A : Option Addr) (c : Nat) (key : List Int) (B : Option Addr) (bc : Nat) (msg : List Int) (w : World) (hk : ¬ 64 < key.length) (hC : Kd.C (Kd.int .u8) w A key.length key) (hc : key.length ≤ c) (hL : key.length ≤ 1000000) (hky : Bytes key) (hM : Kd.C (Kd.int .u8) w B msg.length msg) (hbc : msg.length ≤ bc) (hML : msg.length ≤ 1000000) (hmy : Bytes msg) :
    Calls Tryd.prog 42 #[.slice A key.length c, .slice B msg.length bc] w (AggPost .u8 (macF key msg) w) := by
  have HC := Lib.hid hC
  have HM := Lib.hid hM
  have HKY := Lib.hid hky
  have HMY := Lib.hid hmy
  clear hC hM hky hmy
  have hk' : ¬ (64 : Int) < key.length := by omega
  go_enter Tryd.func42, Tryd.ntmps42
  go_wp2_with (first | ((with_reducible refine gate_dst (N := 4) rfl ?_); refine wpList_alloc_row rfl 24 rfl _ z32 ?_; intro w0 hr0 hb0 hs0; have HR0 := Lib.hid hr0; have HB0 := Lib.hid hb0; clear hr0 hb0 hs0) | ((with_reducible refine gate_dst (N := 14) rfl ?_); refine stopHere ?_))
  refine ⟨?_⟩
  have h0s := HB0.out.size
  have hre := R_lit_nums w0 w0.heap.size 5 .u8 [] (Nat.le_refl _) (by decide)
  have hbe := below_alloc (Below.refl w0.heap.size w0) (.cells (nums .u8 []).toArray 5)
  have hce := Kd.C_below (Kd.C_below HC.out HB0.out) hbe
  refine Kd.R_append_rows (Kd.int .u8) (w0 := w0) w0.heap.size (by rfl) (.tmp 12) (.tmp 13) 22 5 (.int .u8 0) 1 (by rfl) Tryd.underlying22 info5' rfl (by decide) (by decide) (.slice (some ⟨w0.heap.size, 0, none⟩) 0 0) [] key A key.length c (fun _ => True) (fun _ => False) (by rfl) (by rfl) hre hce (fun _ _ h => h) (fun _ h => h.elim) (fun _ _ => trivial) hbe (by simp) (by simp; omega) ?_
  intro v5 w1 hR1 hB1 hg1 hat1
  rw [List.nil_append] at hR1
  obtain ⟨A5, c5, rfl, hc5, hC5⟩ := Kd.R_reads hR1
  have HC5 := Lib.hid hC5
  have HR1 := Lib.hid (blk_below HR0.out hB1)
  have HB1 := Lib.hid (HB0.out.trans (hB1.mono h0s))
  clear hre hbe hce hR1 hB1 hg1 hat1 hC5 HR0 HB0
  have hkf : keyF key = key := by unfold keyF; rw [if_neg hk]
  have HKF := Lib.hid hkf
  have hkl : key.length ≤ 64 := by omega
  have HKB := Lib.hid HKY.out
  have HKC := Lib.hid HC5.out
  have HR3 := Lib.hid HR1.out
  have HB3 := Lib.hid HB1.out
  obtain ⟨wa, hwa⟩ : ∃ x, x = w1 := ⟨w1, rfl⟩
  clear hkf HC h0s HC5 HR1 HB1 hk
  subst hwa
  go_wp2_with fail
  have hpk := padK_len key hkl
  have HPK := Lib.hid hpk
  have has := HB3.out.size
  go_loopw [7, 8, 9] (fun v7 v8 v wr => ∃ i : Nat, i ≤ 64 ∧ v = .int .i64 (i : Int) ∧ PadInv wa key i v7 v8 wr) (fun _ _ v _ => 64 - (intOf v).toNat)
  case atStart => exact ⟨0, by omega, rfl, Kd.R_nil _ _ _ _ _, Kd.R_nil _ _ _ _ _, Below.refl _ _⟩
  case round =>
    obtain ⟨i, hi, rfl, hI⟩ := hrel
    have HI := Lib.hid hI
    clear hI
    by_cases hlt : i < 64
    · have hbs := HI.out.bel.size
      have hti : i < (padK key).length := by rw [HPK.out]; exact hlt
      have HT7 := Lib.hid (take_map_succ (xorB 54) (padK key) i hti)
      have HT8 := Lib.hid (take_map_succ (xorB 92) (padK key) i hti)
      have hl7 : (((padK key).take i).map (xorB 54)).length ≤ 64 := by rw [List.length_map, List.length_take]; omega
      have hl8 : (((padK key).take i).map (xorB 92)).length ≤ 64 := by rw [List.length_map, List.length_take]; omega
      have hlt' : decide ((i : Int) < 64) = true := by simp; omega
      obtain ⟨L7, hL7⟩ : ∃ L, L = ((padK key).take i).map (xorB 54) := ⟨_, rfl⟩
      obtain ⟨L8, hL8⟩ : ∃ L, L = ((padK key).take i).map (xorB 92) := ⟨_, rfl⟩
      have H7 := Lib.hid HI.out.h7
      have H8 := Lib.hid HI.out.h8
      have HBL := Lib.hid HI.out.bel
      rw [← hL7] at HT7 H7 hl7
      rw [← hL8] at HT8 H8 hl8
      clear hL7 hL8 hti hpk HI
      by_cases hin : i < key.length
      · obtain ⟨ad, hA, q0⟩ := Kd.at_int (Kd.C_below HKC.out HBL.out) (i : Int) (by omega) (by omega)
        rw [Int.toNat_natCast] at q0
        have hin' : (i : Int) < (key.length : Int) := by omega
        rw [rd_pad_in key i hin] at HT7 HT8
        generalize rd key (i : Int) = x at *
        subst hA
        go_wp2_with ((with_reducible refine gate_dst (N := 37) rfl ?_); refine stopHere ?_)
        refine ⟨?_⟩
        refine Kd.R_append (Kd.int .u8) (w0 := wa) wa.heap.size (by rfl) (.tmp 33) (.tmp 36) 22 5 (.int .u8 0) 1 (by rfl) Tryd.underlying22 info5' rfl (by decide) (by decide) u7 L7 (xorB 54 x) [.int .u8 (xorB 54 x)] (fun k => True ∧ some k ≠ u8.ownBlock) (fun _ => False) (by rfl) (by rfl) rfl (fun _ hk => hk.elim) (fun k hk => ⟨trivial, Kd.fresh_ok H8.out k hk⟩) H7.out HBL.out hbs (by omega) ?_
        intro v7 w2 hR7 hB7 hg7 hat7
        have H8' := Lib.hid (Kd.R_after H8.out hg7 hat7)
        have H7' := Lib.hid hR7
        have HB7 := Lib.hid hB7
        have h7s := hB7.size
        clear hR7 hB7 hg7 hat7 H7 H8 HBL
        go_wp2_with ((with_reducible refine gate_dst (N := 42) rfl ?_); refine stopHere ?_)
        refine ⟨?_⟩
        refine Kd.R_append (Kd.int .u8) (w0 := wa) wa.heap.size (by rfl) (.tmp 38) (.tmp 41) 22 5 (.int .u8 0) 1 (by rfl) Tryd.underlying22 info5' rfl (by decide) (by decide) u8 L8 (xorB 92 x) [.int .u8 (xorB 92 x)] (fun k => True ∧ some k ≠ v7.ownBlock) (fun _ => False) (by rfl) (by rfl) rfl (fun _ hk => hk.elim) (fun k hk => ⟨trivial, Kd.fresh_ok H7'.out k hk⟩) H8'.out HB7.out h7s (by omega) ?_
        intro v8 w3 hR8 hB8 hg8 hat8
        have H7'' := Lib.hid (Kd.R_after H7'.out hg8 hat8)
        have H8'' := Lib.hid hR8
        have HB8 := Lib.hid hB8
        clear hR8 hB8 hg8 hat8 H7' H8' HB7
        go_wp2_with fail
        go_roundw
        case rel => exact ⟨i + 1, by omega, by go_num, by rw [HT7.out]; exact H7''.out, by rw [HT8.out]; exact H8''.out, HB8.out⟩
        case measure => simp [intOf]; omega
      · have hin' : ¬ (i : Int) < (key.length : Int) := by omega
        rw [rd_pad_out key i hin hlt] at HT7 HT8
        go_wp2_with ((with_reducible refine gate_dst (N := 37) rfl ?_); refine stopHere ?_)
        refine ⟨?_⟩
        refine Kd.R_append (Kd.int .u8) (w0 := wa) wa.heap.size (by rfl) (.tmp 33) (.tmp 36) 22 5 (.int .u8 0) 1 (by rfl) Tryd.underlying22 info5' rfl (by decide) (by decide) u7 L7 (xorB 54 0) [.int .u8 (xorB 54 0)] (fun k => True ∧ some k ≠ u8.ownBlock) (fun _ => False) (by rfl) (by rfl) rfl (fun _ hk => hk.elim) (fun k hk => ⟨trivial, Kd.fresh_ok H8.out k hk⟩) H7.out HBL.out hbs (by omega) ?_
        intro v7 w2 hR7 hB7 hg7 hat7
        have H8' := Lib.hid (Kd.R_after H8.out hg7 hat7)
        have H7' := Lib.hid hR7
        have HB7 := Lib.hid hB7
        have h7s := hB7.size
        clear hR7 hB7 hg7 hat7 H7 H8 HBL
        go_wp2_with ((with_reducible refine gate_dst (N := 42) rfl ?_); refine stopHere ?_)
        refine ⟨?_⟩
        refine Kd.R_append (Kd.int .u8) (w0 := wa) wa.heap.size (by rfl) (.tmp 38) (.tmp 41) 22 5 (.int .u8 0) 1 (by rfl) Tryd.underlying22 info5' rfl (by decide) (by decide) u8 L8 (xorB 92 0) [.int .u8 (xorB 92 0)] (fun k => True ∧ some k ≠ v7.ownBlock) (fun _ => False) (by rfl) (by rfl) rfl (fun _ hk => hk.elim) (fun k hk => ⟨trivial, Kd.fresh_ok H7'.out k hk⟩) H8'.out HB7.out h7s (by omega) ?_
        intro v8 w3 hR8 hB8 hg8 hat8
        have H7'' := Lib.hid (Kd.R_after H7'.out hg8 hat8)
        have H8'' := Lib.hid hR8
        have HB8 := Lib.hid hB8
        clear hR8 hB8 hg8 hat8 H7' H8' HB7
        go_wp2_with fail
        go_roundw
        case rel => exact ⟨i + 1, by omega, by go_num, by rw [HT7.out]; exact H7''.out, by rw [HT8.out]; exact H8''.out, HB8.out⟩
        case measure => simp [intOf]; omega
    · have hi64 : (padK key).take i = padK key := List.take_of_length_le (by rw [HPK.out]; omega)
      have hge : ¬ ((i : Int) < 64) := by omega
      have H7 := Lib.hid HI.out.h7
      have H8 := Lib.hid HI.out.h8
      have HBL := Lib.hid HI.out.bel
      rw [hi64] at H7 H8
      obtain ⟨M1, hM1⟩ : ∃ M, M = (padK key).map (xorB 54) := ⟨_, rfl⟩
      obtain ⟨M2, hM2⟩ : ∃ M, M = (padK key).map (xorB 92) := ⟨_, rfl⟩
      have hb1 : Bytes M1 := by rw [hM1]; exact map_xor_bytes _ _
      have hb2 : Bytes M2 := by rw [hM2]; exact map_xor_bytes _ _
      have hl1 : M1.length = 64 := by rw [hM1, List.length_map]; exact hpk
      have hl2 : M2.length = 64 := by rw [hM2, List.length_map]; exact hpk
      rw [← hM1] at H7
      rw [← hM2] at H8
      have HM1 := Lib.hid hM1
      have HM2 := Lib.hid hM2
      have HBY1 := Lib.hid hb1
      have HBY2 := Lib.hid hb2
      have HL1 := Lib.hid hl1
      have HL2 := Lib.hid hl2
      have hbs := HBL.out.size
      have hmr := Lib.hid (Kd.C_below (Kd.C_below HM.out HB3.out) HBL.out)
      clear hi64 hi hlt hM1 hM2 hb1 hb2 hl1 hl2 hpk HI
      go_wp2_with ((with_reducible refine gate_dst (N := 45) rfl ?_); refine stopHere ?_)
      refine ⟨?_⟩
      refine Kd.R_append_rows (Kd.int .u8) (w0 := wa) wa.heap.size (by rfl) (.tmp 43) (.tmp 44) 22 5 (.int .u8 0) 1 (by rfl) Tryd.underlying22 info5' rfl (by decide) (by decide) u7 M1 msg B msg.length bc (fun k => True ∧ some k ≠ u8.ownBlock) (fun _ => False) (by rfl) (by rfl) H7.out hmr.out (fun _ _ h => h) (fun _ h => h.elim) (fun k hk => ⟨trivial, Kd.fresh_ok H8.out k hk⟩) HBL.out hbs (by have := HL1.out; omega) ?_
      intro v9 w4 hR4 hB4 hg4 hat4
      have H8' := Lib.hid (Kd.R_after H8.out hg4 hat4)
      obtain ⟨A4, c4, rfl, hc4, hC4⟩ := Kd.R_reads hR4
      have HC4 := Lib.hid hC4
      have HRLT := Lib.hid (Kd.R_lt hR4)
      have HB4 := Lib.hid hB4
      have h4s := hB4.size
      clear hR4 hB4 hg4 hat4 hC4 H7 H8 HBL hmr
      have hlm : (M1 ++ msg).length ≤ 100000000 := by rw [List.length_append, HL1.out]; omega
      obtain ⟨X, hX⟩ : ∃ X, X = M1 ++ msg := ⟨_, rfl⟩
      have HXB := Lib.hid (show Bytes X by rw [hX]; exact HBY1.out.append HMY.out)
      rw [← hX] at HC4 hc4 hlm HRLT H8' ⊢
      have HX := Lib.hid hX
      clear hX
      go_wp2_with fail
      refine (RSum_any A4 c4 X w4 HC4.out hc4 HXB.out hlm).mono ?_
      rintro e5 w5 ⟨rfl, hb5⟩
      have hdl := shaF_len X
      obtain ⟨D, hD⟩ : ∃ D, D = shaF X := ⟨_, rfl⟩
      rw [← hD] at hdl ⊢
      have HDB := Lib.hid (show Bytes D by rw [hD]; exact shaF_bytes X)
      have HD := Lib.hid hD
      have HDL := Lib.hid hdl
      have H8b := Lib.hid (Kd.R_below H8'.out hb5)
      have HB5 := Lib.hid (HB4.out.trans (hb5.mono h4s))
      have HR5 := Lib.hid (blk_below (blk_below HR3.out HB4.out) hb5)
      have h5s := HB5.out.size
      have hi32k := Lib.hid (show (Tryd.prog.info? 24).map (·.size) = some (nums .u8 D).toArray.size by rw [List.size_toArray, nums_length, hdl]; exact i32b)
      have hsz32 := Lib.hid (show (nums .u8 (List.replicate 32 0)).toArray.size = (nums .u8 D).toArray.size by rw [List.size_toArray, nums_length, List.size_toArray, nums_length, hdl]; rfl)
      have h45 := hb5.size
      clear hb5 hdl hD HC4 HXB hc4 hlm H8' HB4
      go_wp2_with (first | ((with_reducible refine gate_dst (N := 11) rfl ?_); refine wpList_alloc_row rfl 24 rfl _ z32 ?_; intro w6 hr6 hb6 hs6; have HRD := Lib.hid hr6; have HBD := Lib.hid hb6; clear hr6 hb6 hs6) | ((with_reducible refine gate_store (t := 24) (p := 11) rfl ?_); (refine wpList_store_row rfl 24 _ _ rfl _ _ rfl rfl 24 _ HRD.out hi32k.out hsz32.out (oneCell_nums _ _) ?_)) | ((with_reducible refine gate_dst (N := 49) rfl ?_); refine stopHere ?_))
      refine ⟨?_⟩
      have hdC := Lib.hid (C_block (setRow_heap _ _ _ (nums .u8 D).toArray _ _ HRD.out) (by rw [HDL.out]; decide))
      have h8c := Lib.hid (Kd.R_below H8b.out (below_setRow HBD.out (Nat.le_refl _) (nums .u8 D).toArray))
      have HB6 := Lib.hid (below_setRow ((HB5.out.trans (HBD.out.mono h5s))) h5s (nums .u8 D).toArray)
      have HR6 := Lib.hid ((setRow_other w6 w5.heap.size w.heap.size (nums .u8 D).toArray (Nat.ne_of_lt (blk_lt HR5.out))).trans (blk_below HR5.out HBD.out))
      have hdn : D.length = 32 := HDL.out
      have h57 : w5.heap.size < (w6.setRow w5.heap.size (nums .u8 D).toArray).heap.size := blk_lt (setRow_heap _ _ _ (nums .u8 D).toArray _ _ HRD.out)
      clear H8b HB5 HR5 HRD HBD hi32k hsz32
      generalize w6.setRow w5.heap.size (nums .u8 D).toArray = w7 at *
      generalize w5.heap.size = n5 at *
      have h7s := HB6.out.size
      refine Kd.R_append_rows (Kd.int .u8) (w0 := wa) wa.heap.size (by rfl) (.tmp 47) (.tmp 48) 22 5 (.int .u8 0) 1 (by rfl) Tryd.underlying22 info5' rfl (by decide) (by decide) u8 M2 D (some ⟨n5, 0, none⟩) 32 32 (fun k => True ∧ some k ≠ (Value.slice A4 X.length c4).ownBlock) (fun _ => False) (by rfl) (by rfl) h8c.out (by have h := hdC.out; rw [hdn] at h; exact h) (fun _ _ h => h) (fun _ h => h.elim) (fun k hk => ⟨trivial, fun e => by have := HRLT.out k e.symm; omega⟩) HB6.out h7s (by have := HL2.out; omega) ?_
      intro v8 w8 hR8 hB8 hg8 hat8
      obtain ⟨A8, c8, rfl, hc8, hC8⟩ := Kd.R_reads hR8
      have HC8 := Lib.hid hC8
      have HB8 := Lib.hid hB8
      have HR8 := Lib.hid (blk_below HR3.out hB8)
      have h8s := hB8.size
      clear hR8 hB8 hg8 hat8 hC8 hdC h8c HB6 HR6
      have hly : (M2 ++ D).length ≤ 100000000 := by rw [List.length_append, HL2.out]; omega
      have HZ := Lib.hid (show macF key msg = shaF (M2 ++ D) by unfold macF; rw [HKF.out, ← HM1.out, ← HM2.out, ← HX.out, HD.out])
      obtain ⟨Y, hY⟩ : ∃ Y, Y = M2 ++ D := ⟨_, rfl⟩
      have HYB := Lib.hid (show Bytes Y by rw [hY]; exact HBY2.out.append HDB.out)
      rw [← hY] at HC8 hc8 hly HZ ⊢
      clear hY hdn
      go_wp2_with fail
      refine (RSum_any A8 c8 Y w8 HC8.out hc8 HYB.out hly).mono ?_
      rintro e9 w9 ⟨rfl, hb9⟩
      have hzl := shaF_len Y
      obtain ⟨Z, hZ⟩ : ∃ Z, Z = shaF Y := ⟨_, rfl⟩
      rw [← hZ] at hzl HZ ⊢
      have HR9 := Lib.hid (blk_below HR8.out hb9)
      have HB9 := Lib.hid ((HB3.out.trans (HB8.out.mono has)).trans (hb9.mono (by omega)))
      have hi32 := Lib.hid (show (Tryd.prog.info? 24).map (·.size) = some (nums .u8 Z).toArray.size by rw [List.size_toArray, nums_length, hzl]; exact i32b)
      have hsz := Lib.hid (show (nums .u8 (List.replicate 32 0)).toArray.size = (nums .u8 Z).toArray.size by rw [List.size_toArray, nums_length, List.size_toArray, nums_length, hzl]; rfl)
      clear hb9 hzl hZ
      go_wp2_with ((with_reducible refine gate_store (t := 24) (p := 4) rfl ?_); (refine wpList_store_row rfl 24 _ _ rfl _ _ rfl rfl 24 _ HR9.out hi32.out hsz.out (oneCell_nums _ _) ?_))
      refine bodyPost_ret (v := .agg (nums .u8 Z).toArray) (results_cell_row Tryd.results42 _ _ _ _ _ (0, 0) _ rfl (setRow_heap _ _ _ _ _ _ HR9.out) Tryd.underlying24 rfl hi32.out) rfl ⟨by rw [HZ.out], below_setRow HB9.out (Nat.le_refl _) _⟩
theorem rmac_any (A : Option Addr) (c : Nat) (key : List Int) (B : Option Addr) (bc : Nat) (msg : List Int) (w : World) (hC : Kd.C (Kd.int .u8) w A key.length key) (hc : key.length ≤ c) (hL : key.length ≤ 1000000) (hky : Bytes key) (hM : Kd.C (Kd.int .u8) w B msg.length msg) (hbc : msg.length ≤ bc) (hML : msg.length ≤ 1000000) (hmy : Bytes msg) :
    Calls Tryd.prog 42 #[.slice A key.length c, .slice B msg.length bc] w (AggPost .u8 (macF key msg) w) := by
  by_cases hk : 64 < key.length
  · exact rmacLong_any A c key B bc msg w hk hC hc hL hky hM hbc hML hmy
  · exact rmacShort_any A c key B bc msg w hk hC hc hL hky hM hbc hML hmy
end Go.Proofs.YtipapffpfggmnaaDoor
