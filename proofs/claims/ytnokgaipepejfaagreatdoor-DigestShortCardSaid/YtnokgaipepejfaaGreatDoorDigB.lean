/-
  The empty schema, and one definition of zeros, through packages check and codec.
-/
import Derived.Test.YtnokgaipepejfaaGreatDoorDigA
import Derived.Laws.EntriesVeiled
namespace Go.Proofs.YtnokgaipepejfaaGreatDoor
open Go.RowKit
set_option linter.unusedVariables false
set_option linter.unusedSimpArgs false
theorem kept {w W : World} (h : Below w.heap.size w W) {p : Addr} {v : Value} (hc : w.cell? p = some v ∧ w.frozen? p = false) : W.cell? p = some v ∧ W.frozen? p = false := ⟨below_cell h hc.1, (h.frozen (World.block_lt_of_cell? w p hc.1)).trans hc.2⟩
theorem kalloc {w : World} (o : Obj) {p : Addr} {v : Value} (hc : w.cell? p = some v ∧ w.frozen? p = false) : (w.alloc o).cell? p = some v ∧ (w.alloc o).frozen? p = false := kept ((Below.refl _ w).alloc (Nat.le_refl _) o) hc
/-- Form of a schema of one definition of zeros. -/
theorem form_z (g : Nat) (w : World) (hg : w.cell? ⟨g, 0, none⟩ = some (.string ⟨#[]⟩)) (hg1 : w.cell? ⟨g, 1, none⟩ = some (.slice none 0 0)) : Calls Tryz.prog 19 #[.agg #[.slice (some ⟨g, 0, none⟩) 1 1]] w (DPost w (.bool false)) := by
  go_enter Tryz.func19, Tryz.ntmps19
  go_wp2_with fail
  go_loopw [14] (fun n wr => n = .int .i64 0 ∧ (w.alloc (.cells #[.slice (some ⟨g, 0, none⟩) 1 1] 32)).alloc (.cells #[.bool false] 4) = wr) (fun n _ => 0)
  case atStart => exact ⟨rfl, rfl⟩
  case round =>
    obtain ⟨rfl, rfl⟩ := hrel
    have hga := cell_alloc_l (.cells #[.bool false] 4) (cell_alloc_l (.cells #[.slice (some ⟨g, 0, none⟩) 1 1] 32) hg)
    have hgb := cell_alloc_l (.cells #[.bool false] 4) (cell_alloc_l (.cells #[.slice (some ⟨g, 0, none⟩) 1 1] 32) hg1)
    have hn : g < w.heap.size := World.block_lt_of_cell? _ _ hg
    go_wp2_with fail
    have h1 := kalloc (.cells #[.string ⟨#[]⟩, .slice none 0 0] 49) (cell_new_l (w.alloc (.cells #[.slice (some ⟨g, 0, none⟩) 1 1] 32)) (.bool false) 4)
    rw [World.size_alloc] at h1
    have hB := (((Below.refl _ w).alloc (Nat.le_refl _) (.cells #[.slice (some ⟨g, 0, none⟩) 1 1] 32)).alloc (by simp) (.cells #[.bool false] 4)).alloc (by simp; omega) (.cells #[.string ⟨#[]⟩, .slice none 0 0] 49)
    refine (name_no _).mono ?_
    rintro e2 w2 ⟨rfl, hb⟩
    have h2 := kept hb h1
    have HB2 := Lib.hid (chain hB hb)
    obtain ⟨hc2, hf2⟩ := h2
    have hs2 := hb.size
    simp only [World.size_alloc] at hs2
    clear hb hB h1
    go_wp2_with fail
    have hcr := World.cell?_setCell_same' w2 ⟨w.heap.size + 1, 0, none⟩ (.bool false) (by rw [hc2]; rfl)
    refine bodyPost_ret (v := .bool false) (by simp [results, Tryz.f19, go_sem, hcr]) rfl ⟨rfl, ?_⟩
    exact HB2.out.setCell (by simp) _
theorem right_es0 (w : World) : Calls Tryz.prog 34 #[ES] w (DPost w .nilIface) := by
  unfold ES
  go_enter Tryz.func34, Tryz.ntmps34
  go_wp2_with fail
  have h1 := cell_new_l (w.alloc (.cells #[.slice none 0 0] 32)) .nilIface 75
  have h0 := kalloc (.cells #[.nilIface] 75) (cell_new_l w (.slice none 0 0) 32)
  rw [World.size_alloc] at h1
  have hB := ((Below.refl _ w).alloc (Nat.le_refl _) (.cells #[.slice none 0 0] 32)).alloc (by simp) (.cells #[.nilIface] 75)
  refine (form_es _).mono ?_
  rintro e2 w2 ⟨rfl, hb⟩
  have h2 := kept hb h1
  have h02 := kept hb h0
  have hs2 := hb.size
  have HB2 := Lib.hid (chain hB hb)
  obtain ⟨hc2, hf2⟩ := h2
  obtain ⟨hc02, hf02⟩ := h02
  simp only [World.size_alloc] at hs2
  clear hb hB h1 h0
  have hmm := @run_makeMap Tryz.prog
  have hx := kalloc (.cells #[.func (.func 60) #[] #[.pointer (some ⟨w2.heap.size + 1, 0, none⟩)]] 92) (kalloc (.cells #[.map (some w2.heap.size)] 111) (kalloc (.map #[] 0) ⟨hc02, hf02⟩))
  have hy := kalloc (.cells #[.func (.func 60) #[] #[.pointer (some ⟨w2.heap.size + 1, 0, none⟩)]] 92) (kalloc (.cells #[.map (some w2.heap.size)] 111) (kalloc (.map #[] 0) ⟨hc2, hf2⟩))
  obtain ⟨hx1, hx2⟩ := hx
  obtain ⟨hy1, hy2⟩ := hy
  go_wp2_with fail
  go_loopw [20] (fun n wr => n = .int .i64 0 ∧ ((w2.alloc (.map #[] 0)).alloc (.cells #[.map (some w2.heap.size)] 111)).alloc (.cells #[.func (.func 60) #[] #[.pointer (some ⟨w2.heap.size + 1, 0, none⟩)]] 92) = wr) (fun n _ => 0)
  case atStart => exact ⟨rfl, rfl⟩
  case round =>
    obtain ⟨rfl, rfl⟩ := hrel
    have hB := ((HB2.out.alloc (by omega) (.map #[] 0)).alloc (by simp; omega) (.cells #[.map (some w2.heap.size)] 111)).alloc (by simp; omega) (.cells #[.func (.func 60) #[] #[.pointer (some ⟨w2.heap.size + 1, 0, none⟩)]] 92)
    have HB3 := Lib.hid hB
    clear hB
    go_wp2_with fail
    have hcr := World.cell?_setCell_same' _ ⟨w.heap.size + 1, 0, none⟩ (.nilIface) (by rw [hy1]; rfl)
    refine bodyPost_ret (v := .nilIface) (by simp [results, Tryz.f34, go_sem, hcr]) rfl ⟨rfl, ?_⟩
    exact HB3.out.setCell (by simp) _
theorem list_es (w : World) (f : Value) : Calls Tryz.prog 20 #[.slice none 0 0, f] w fun e w' => ∃ g c, e = .returned (.slice (some ⟨g, 0, none⟩) 1 c) ∧ w'.cell? ⟨g, 0, none⟩ = some (.int .u8 0) ∧ Below w.heap.size w w' := by
  go_enter Tryz.func20, Tryz.ntmps20
  go_wp2_with fail
  refine (put_zero w).mono ?_
  rintro e1 w1 ⟨g, c, rfl, hc, hb⟩
  have HB := Lib.hid hb
  have HC := Lib.hid hc
  clear hb hc
  go_wp2_with fail
  go_loopw [5, 14] (fun o n wr => o = .slice (some ⟨g, 0, none⟩) 1 c ∧ n = .int .i64 0 ∧ w1 = wr) (fun _ n _ => 0)
  case atStart => exact ⟨rfl, rfl, rfl⟩
  case round =>
    obtain ⟨rfl, rfl, rfl⟩ := hrel
    go_wp2_with fail
    refine bodyPost_ret (v := _) (results_tmp Tryz.results20 _ _ _) rfl ⟨_, _, rfl, HC.out, HB.out⟩
theorem cput_es (w : World) : Calls Tryz.prog 11 #[ES] w fun e w' => ∃ g c, e = .returned (.tuple #[.slice (some ⟨g, 0, none⟩) 1 c, .bool true]) ∧ w'.cell? ⟨g, 0, none⟩ = some (.int .u8 0) ∧ Below w.heap.size w w' := by
  unfold ES
  go_enter Tryz.func11, Tryz.ntmps11
  go_wp2_with fail
  have h1 := cell_new_l w (.slice none 0 0) 32
  have hB := ((Below.refl _ w).alloc (Nat.le_refl _) (.cells #[.slice none 0 0] 32))
  refine (form_es _).mono ?_
  rintro e2 w2 ⟨rfl, hb⟩
  have h2 := kept hb h1
  have hs2 := hb.size
  have HB2 := Lib.hid (chain hB hb)
  obtain ⟨hc2, hf2⟩ := h2
  simp only [World.size_alloc] at hs2
  clear hb hB h1
  go_wp2_with fail
  refine (list_es _ _).mono ?_
  rintro e3 w3 ⟨g, c, rfl, hc3, hb⟩
  have HB3 := Lib.hid (chain HB2.out hb)
  have HC3 := Lib.hid hc3
  clear hb hc3 hc2 hf2
  go_wp2_with fail
  exact bodyPost_ret (v := .tuple #[.slice (some ⟨g, 0, none⟩) 1 c, .bool true]) (by simp [results, Tryz.f11, go_sem]) rfl ⟨_, _, rfl, HC3.out, HB3.out⟩
end Go.Proofs.YtnokgaipepejfaaGreatDoor
