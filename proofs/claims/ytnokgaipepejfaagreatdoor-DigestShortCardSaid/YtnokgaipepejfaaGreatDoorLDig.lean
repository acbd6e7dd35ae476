/-
  The law DigestShort.
-/
import Derived.Test.YtnokgaipepejfaaGreatDoorDigW
namespace Go.Proofs.YtnokgaipepejfaaGreatDoor
open Go.RowKit Go.Proofs.YtnokgaipepejfaaGreatDoorW.PrintWords Go.Proofs.YtnokgaipepejfaaGreatDoorW.PrintLast Go.Proofs.YtnokgaipepejfaaGreatDoorW.PrintMore
set_option linter.unusedVariables false
set_option linter.unusedSimpArgs false
theorem idx_hexk (k : IntKind) (n : Int) (h0 : 0 ≤ n) (h1 : n < 16) (W : World) : (Instr.index 9 (.string ⟨#[48, 49, 50, 51, 52, 53, 54, 55, 56, 57, 97, 98, 99, 100, 101, 102]⟩) (.int k n)).run Tryz.prog W = .ok (.int .u8 (hx n)) W := by
  have : n = 0 ∨ n = 1 ∨ n = 2 ∨ n = 3 ∨ n = 4 ∨ n = 5 ∨ n = 6 ∨ n = 7 ∨ n = 8 ∨ n = 9 ∨ n = 10 ∨ n = 11 ∨ n = 12 ∨ n = 13 ∨ n = 14 ∨ n = 15 := by omega
  rcases this with rfl | rfl | rfl | rfl | rfl | rfl | rfl | rfl | rfl | rfl | rfl | rfl | rfl | rfl | rfl | rfl <;> simp [run_index_string _ _ _ _ _ Tryz.underlying9, hx] <;> rfl
theorem strOf_size (l : List Int) : (strOf l).size = l.length := by simp [strOf, ByteArray.size]
theorem idx_str (l : List Int) (hb : Byt l) (n : Nat) (i x : Int) (hi : i = n) (hl : l[n]? = some x) (W : World) : (Instr.index 9 (.string (strOf l)) (.int .i64 i)).run Tryz.prog W = .ok (.int .u8 x) W := by
  subst hi
  obtain ⟨hn, hx'⟩ := List.getElem?_eq_some_iff.1 hl
  rw [run_index_string W 9 (strOf l) .i64 (n : Int) Tryz.underlying9, dif_pos ⟨by omega, by rw [strOf_size]; omega⟩]
  have hbx := hb l[n] (List.getElem_mem _)
  rw [hx'] at hbx
  have hz : ((strOf l)[((n : Nat) : Int).toNat]'(by rw [strOf_size]; omega)) = UInt8.ofNat x.toNat := by
    show (strOf l).data[((n : Nat) : Int).toNat]'_ = _
    simp only [strOf, Int.toNat_natCast, List.getElem_toArray, List.getElem_map, hx']
  rw [hz, UInt8.toNat_ofNat']
  congr 2
  omega
set_option maxRecDepth 100000 in
set_option maxHeartbeats 4000000 in
theorem law_any (d : List Int) (hd : d.length = 32) (hb : Byt d) (w : World) : Calls Tryz.prog 3 #[.agg (nums .u8 d).toArray] w (DPost w (.bool true)) := by
  go_enter Tryz.func3, Tryz.ntmps3
  have HA : (w.alloc (Obj.cells (nums IntKind.u8 d).toArray 22)).heap[w.heap.size]? = some (Obj.cells (nums IntKind.u8 d).toArray 22) := World.alloc_heap_new _ _
  have HB0 := (Below.refl _ w).alloc (Nat.le_refl _) (Obj.cells (nums IntKind.u8 d).toArray 22)
  have HS0 := World.size_alloc w (Obj.cells (nums IntKind.u8 d).toArray 22)
  go_wp2_with fail
  refine (awake_any _).mono ?_
  rintro e2 w2 ⟨rfl, hb2⟩
  have HR2 := Lib.hid ((hb2.block w.heap.size (by omega)).trans HA)
  have HB2 := Lib.hid (chain HB0 hb2)
  have hs2 := hb2.size
  rw [HS0] at hs2
  have hcel : ∀ j (hj : j < d.length), w2.cell? ⟨w.heap.size, j, none⟩ = some (.int .u8 d[j]) := fun j hj => by
    have := HR2.out
    unfold World.cell?
    simp only [this]
    simp [nums, hj]
  clear hb2 HA HB0 HS0
  have hil := Lib.hid (i32l d hd)
  have hsh := fun w' => (short_any d hd hb w')
  obtain ⟨l, hl⟩ : ∃ l, l = hexs (d.take 4) := ⟨_, rfl⟩
  rw [← hl] at hsh
  have hlb : Byt l := by rw [hl]; exact hexs_byte _ fun x hx' => hb x (List.mem_of_mem_take hx')
  have hll : l.length = 8 := by rw [hl, hexs_len, List.length_take]; omega
  have hle : l = [hx (d[0] / 16), hx (d[0] % 16), hx (d[1] / 16), hx (d[1] % 16), hx (d[2] / 16), hx (d[2] % 16), hx (d[3] / 16), hx (d[3] % 16)] := by
    rw [hl]
    rcases d with _ | ⟨d0, _ | ⟨d1, _ | ⟨d2, _ | ⟨d3, r⟩⟩⟩⟩ <;> first | rfl | (exfalso; simp at hd)
  have hsz : (strOf l).size = 8 := by rw [strOf_size, hll]
  have h0 := idx_str l hlb 0 0 (hx (d[0] / 16)) rfl (by rw [hle]; rfl)
  have h1 := idx_str l hlb 1 1 (hx (d[0] % 16)) rfl (by rw [hle]; rfl)
  have h2 := idx_str l hlb 2 2 (hx (d[1] / 16)) rfl (by rw [hle]; rfl)
  have h3 := idx_str l hlb 3 3 (hx (d[1] % 16)) rfl (by rw [hle]; rfl)
  have h4 := idx_str l hlb 4 4 (hx (d[2] / 16)) rfl (by rw [hle]; rfl)
  have h5 := idx_str l hlb 5 5 (hx (d[2] % 16)) rfl (by rw [hle]; rfl)
  have h6 := idx_str l hlb 6 6 (hx (d[3] / 16)) rfl (by rw [hle]; rfl)
  have h7 := idx_str l hlb 7 7 (hx (d[3] % 16)) rfl (by rw [hle]; rfl)
  have hc0 := hcel 0 (by omega)
  have hc1 := hcel 1 (by omega)
  have hc2 := hcel 2 (by omega)
  have hc3 := hcel 3 (by omega)
  have g0 := hb d[0] (List.getElem_mem _)
  have g1 := hb d[1] (List.getElem_mem _)
  have g2 := hb d[2] (List.getElem_mem _)
  have g3 := hb d[3] (List.getElem_mem _)
  generalize d[0] = d0 at *
  generalize d[1] = d1 at *
  generalize d[2] = d2 at *
  generalize d[3] = d3 at *
  generalize strOf l = S at *
  have HSH := Lib.hid hsh
  clear hsh hle hll hlb hl hcel
  obtain ⟨DV, hDV⟩ : ∃ DV, DV = (nums .u8 d).toArray := ⟨_, rfl⟩
  rw [← hDV] at HSH HR2 hil ⊢
  clear hDV
  go_wp2_with ((with_reducible refine gate_dst (N := 9) rfl ?_); (refine wpList_load_row rfl 22 _ rfl _ rfl 22 _ (0, 0) _ HR2.out Tryz.underlying22 rfl hil.out ?_))
  refine (HSH.out w2).mono ?_
  rintro e3 w3 ⟨rfl, hb3⟩
  replace hc0 := below_cell hb3 hc0
  replace hc1 := below_cell hb3 hc1
  replace hc2 := below_cell hb3 hc2
  replace hc3 := below_cell hb3 hc3
  have HB3 := Lib.hid (chain HB2.out hb3)
  have hs3 := Nat.le_trans hs2 hb3.size
  clear hb3 hs2 HB2 HR2
  have e0 := idx_hexk .i64 (d0 / 16) (by omega) (by omega)
  have f0 := idx_hexk .i64 (d0 % 16) (by omega) (by omega)
  have e1 := idx_hexk .i64 (d1 / 16) (by omega) (by omega)
  have f1 := idx_hexk .i64 (d1 % 16) (by omega) (by omega)
  have e2 := idx_hexk .i64 (d2 / 16) (by omega) (by omega)
  have f2 := idx_hexk .i64 (d2 % 16) (by omega) (by omega)
  have e3 := idx_hexk .i64 (d3 / 16) (by omega) (by omega)
  have f3 := idx_hexk .i64 (d3 % 16) (by omega) (by omega)
  go_wp2_with fail
  go_loopw [5] (fun n wr => ∃ i : Int, 0 ≤ i ∧ i ≤ 8 ∧ n = .int .i64 i ∧ Below w3.heap.size w3 wr) (fun n _ => (8 - (intOf n)).toNat)
  case atStart => exact ⟨0, by omega, by omega, rfl, Below.refl _ _⟩
  case round =>
    obtain ⟨i, hi0, hi, rfl, hB⟩ := hrel
    replace hc0 := below_cell hB hc0
    replace hc1 := below_cell hB hc1
    replace hc2 := below_cell hB hc2
    replace hc3 := below_cell hB hc3
    rcases (by omega : i = 0 ∨ i = 1 ∨ i = 2 ∨ i = 3 ∨ i = 4 ∨ i = 5 ∨ i = 6 ∨ i = 7 ∨ i = 8) with rfl | rfl | rfl | rfl | rfl | rfl | rfl | rfl | rfl
    · clear h1 h2 h3 h4 h5 h6 h7 e1 e2 e3 f0 f1 f2 f3 HSH hil
      go_wp2_with fail
      go_region
      all_goals (go_wp2_with fail; go_roundw)
      all_goals first | exact ⟨1, by omega, by omega, rfl, hB.drew⟩ | (simp [intOf])
    · clear h0 h2 h3 h4 h5 h6 h7 e0 e1 e2 e3 f1 f2 f3 HSH hil
      go_wp2_with fail
      go_region
      all_goals (go_wp2_with fail; go_roundw)
      all_goals first | exact ⟨2, by omega, by omega, rfl, hB.drew⟩ | (simp [intOf])
    · clear h0 h1 h3 h4 h5 h6 h7 e0 e2 e3 f0 f1 f2 f3 HSH hil
      go_wp2_with fail
      go_region
      all_goals (go_wp2_with fail; go_roundw)
      all_goals first | exact ⟨3, by omega, by omega, rfl, hB.drew⟩ | (simp [intOf])
    · clear h0 h1 h2 h4 h5 h6 h7 e0 e1 e2 e3 f0 f2 f3 HSH hil
      go_wp2_with fail
      go_region
      all_goals (go_wp2_with fail; go_roundw)
      all_goals first | exact ⟨4, by omega, by omega, rfl, hB.drew⟩ | (simp [intOf])
    · clear h0 h1 h2 h3 h5 h6 h7 e0 e1 e3 f0 f1 f2 f3 HSH hil
      go_wp2_with fail
      go_region
      all_goals (go_wp2_with fail; go_roundw)
      all_goals first | exact ⟨5, by omega, by omega, rfl, hB.drew⟩ | (simp [intOf])
    · clear h0 h1 h2 h3 h4 h6 h7 e0 e1 e2 e3 f0 f1 f3 HSH hil
      go_wp2_with fail
      go_region
      all_goals (go_wp2_with fail; go_roundw)
      all_goals first | exact ⟨6, by omega, by omega, rfl, hB.drew⟩ | (simp [intOf])
    · clear h0 h1 h2 h3 h4 h5 h7 e0 e1 e2 f0 f1 f2 f3 HSH hil
      go_wp2_with fail
      go_region
      all_goals (go_wp2_with fail; go_roundw)
      all_goals first | exact ⟨7, by omega, by omega, rfl, hB.drew⟩ | (simp [intOf])
    · clear h0 h1 h2 h3 h4 h5 h6 e0 e1 e2 e3 f0 f1 f2 HSH hil
      go_wp2_with fail
      go_region
      all_goals (go_wp2_with fail; go_roundw)
      all_goals first | exact ⟨8, by omega, by omega, rfl, hB.drew⟩ | (simp [intOf])
    · go_wp2_with fail
      go_ret
      exact ⟨rfl, HB3.out.trans (hB.mono HB3.out.size)⟩
end Go.Proofs.YtnokgaipepejfaaGreatDoor
