/-
  Right, Input and Schema of package digest at the empty schema and at one definition of zeros.
-/
import Derived.Test.YtnokgaipepejfaaGreatDoorDigB
import Derived.Deep.RegionWith
namespace Go.Proofs.YtnokgaipepejfaaGreatDoor
open Go.RowKit
set_option linter.unusedVariables false
set_option linter.unusedSimpArgs false
theorem right_z0 (g : Nat) (w : World) (hg : w.cell? ⟨g, 0, none⟩ = some (.string ⟨#[]⟩)) (hg1 : w.cell? ⟨g, 1, none⟩ = some (.slice none 0 0)) : Calls Tryz.prog 34 #[.agg #[.slice (some ⟨g, 0, none⟩) 1 1]] w (DPost w (.iface 110 (.int .i64 6))) := by
  go_enter Tryz.func34, Tryz.ntmps34
  go_wp2_with fail
  have h1 := cell_new_l (w.alloc (.cells #[.slice (some ⟨g, 0, none⟩) 1 1] 32)) .nilIface 75
  rw [World.size_alloc] at h1
  have hB := ((Below.refl _ w).alloc (Nat.le_refl _) (.cells #[.slice (some ⟨g, 0, none⟩) 1 1] 32)).alloc (by simp) (.cells #[.nilIface] 75)
  refine (form_z g _ (cell_alloc_l _ (cell_alloc_l _ hg)) (cell_alloc_l _ (cell_alloc_l _ hg1))).mono ?_
  rintro e2 w2 ⟨rfl, hb⟩
  have h2 := kept hb h1
  have HB2 := Lib.hid (chain hB hb)
  obtain ⟨hc2, hf2⟩ := h2
  clear hb hB h1
  go_wp2_with fail
  have hcr := World.cell?_setCell_same' w2 ⟨w.heap.size + 1, 0, none⟩ (.iface 110 (.int .i64 6)) (by rw [hc2]; rfl)
  refine bodyPost_ret (v := .iface 110 (.int .i64 6)) (by simp [results, Tryz.f34, go_sem, hcr]) rfl ⟨rfl, ?_⟩
  exact HB2.out.setCell (by simp) _
theorem right_es (w : World) : Calls Tryz.prog 16 #[ES] w (DPost w (.bool true)) := by
  unfold ES
  go_enter Tryz.func16, Tryz.ntmps16
  go_wp2_with fail
  have hB := ((Below.refl _ w).alloc (Nat.le_refl _) (.cells #[.slice none 0 0] 32))
  refine (right_es0 _).mono ?_
  rintro e2 w2 ⟨rfl, hb⟩
  have HB2 := Lib.hid (chain hB hb)
  clear hb hB
  go_wp2_with fail
  go_ret
  exact ⟨rfl, HB2.out⟩
theorem right_z (g : Nat) (w : World) (hg : w.cell? ⟨g, 0, none⟩ = some (.string ⟨#[]⟩)) (hg1 : w.cell? ⟨g, 1, none⟩ = some (.slice none 0 0)) : Calls Tryz.prog 16 #[.agg #[.slice (some ⟨g, 0, none⟩) 1 1]] w (DPost w (.bool false)) := by
  go_enter Tryz.func16, Tryz.ntmps16
  go_wp2_with fail
  have hB := ((Below.refl _ w).alloc (Nat.le_refl _) (.cells #[.slice (some ⟨g, 0, none⟩) 1 1] 32))
  refine (right_z0 g _ (cell_alloc_l _ hg) (cell_alloc_l _ hg1)).mono ?_
  rintro e2 w2 ⟨rfl, hb⟩
  have HB2 := Lib.hid (chain hB hb)
  clear hb hB
  go_wp2_with fail
  go_ret
  exact ⟨rfl, HB2.out⟩
theorem of_z (g : Nat) (w : World) (fv : Value) (hg : w.cell? ⟨g, 0, none⟩ = some (.string ⟨#[]⟩)) (hg1 : w.cell? ⟨g, 1, none⟩ = some (.slice none 0 0)) : Calls Tryz.prog 12 #[.agg #[fv], .agg #[.slice (some ⟨g, 0, none⟩) 1 1]] w (DPost w (.tuple #[.slice none 0 0, .bool false])) := by
  go_enter Tryz.func12, Tryz.ntmps12
  go_wp2_with fail
  have hB := ((Below.refl _ w).alloc (Nat.le_refl _) (.cells #[fv] 40)).alloc (by simp) (.cells #[.slice (some ⟨g, 0, none⟩) 1 1] 32)
  refine (right_z g _ (cell_alloc_l _ (cell_alloc_l _ hg)) (cell_alloc_l _ (cell_alloc_l _ hg1))).mono ?_
  rintro e2 w2 ⟨rfl, hb⟩
  have HB2 := Lib.hid (chain hB hb)
  clear hb hB
  go_wp2_with fail
  exact bodyPost_ret (v := .tuple #[.slice none 0 0, .bool false]) (by simp [results, Tryz.f12, go_sem]) rfl ⟨rfl, HB2.out⟩
theorem of_es (w : World) : Calls Tryz.prog 12 #[.agg #[.func (.func 11) #[] #[]], ES] w fun e w' => ∃ g c, e = .returned (.tuple #[.slice (some ⟨g, 0, none⟩) 1 c, .bool true]) ∧ w'.cell? ⟨g, 0, none⟩ = some (.int .u8 0) ∧ Below w.heap.size w w' := by
  unfold ES
  go_enter Tryz.func12, Tryz.ntmps12
  go_wp2_with fail
  have h0 := kalloc (.cells #[.slice none 0 0] 32) (cell_new_l w (.func (.func 11) #[] #[]) 40)
  have h1 := cell_new_l (w.alloc (.cells #[.func (.func 11) #[] #[]] 40)) (.slice none 0 0) 32
  rw [World.size_alloc] at h1
  have hB := ((Below.refl _ w).alloc (Nat.le_refl _) (.cells #[.func (.func 11) #[] #[]] 40)).alloc (by simp) (.cells #[.slice none 0 0] 32)
  refine (right_es _).mono ?_
  rintro e2 w2 ⟨rfl, hb⟩
  have h02 := kept hb h0
  have h12 := kept hb h1
  have hs2 := hb.size
  have HB2 := Lib.hid (chain hB hb)
  obtain ⟨hc0, hf0⟩ := h02
  obtain ⟨hc1, hf1⟩ := h12
  clear hb hB h1 h0
  go_wp2_with fail
  have hs2' : w.heap.size + 1 + 1 ≤ w2.heap.size := by simpa using hs2
  clear hs2
  go_region_with (first
    | (go_at_call 18; refine (canon_es _).mono ?_; rintro e3 w3 ⟨rfl, hb3⟩; have hk3 := kept (v := .func (.func 11) #[] #[]) (p := ⟨w.heap.size, 0, none⟩) hb3 ⟨hc0, hf0⟩; obtain ⟨hk30, hk31⟩ := hk3; have HB3 := Lib.hid hb3; clear hb3; unfold ES)
    | (go_at_call 11; refine (cput_es _).mono ?_; rintro e4 w4 ⟨g4, c4, rfl, hc4, hb4⟩; have HB4 := Lib.hid hb4; have HC4 := Lib.hid hc4; clear hb4 hc4))
  all_goals (go_wp2_with fail)
  all_goals exact bodyPost_ret (v := .tuple #[.slice (some ⟨g4, 0, none⟩) 1 c4, .bool true]) (by simp [results, Tryz.f12, go_sem]) rfl ⟨_, _, rfl, HC4.out, (HB2.out.trans ((Below.refl _ _).drew.trans (HB3.out.mono (by exact Nat.le_refl _)) |>.mono HB2.out.size)).trans (HB4.out.mono (Nat.le_trans HB2.out.size HB3.out.size))⟩
theorem input_es (w : World) : Calls Tryz.prog 6 #[ES] w fun e w' => ∃ g c, e = .returned (.tuple #[.slice (some ⟨g, 0, none⟩) 1 c, .bool true]) ∧ w'.cell? ⟨g, 0, none⟩ = some (.int .u8 0) ∧ Below w.heap.size w w' := by
  unfold ES
  go_enter Tryz.func6, Tryz.ntmps6
  go_wp2_with fail
  have hB := ((Below.refl _ w).alloc (Nat.le_refl _) (.cells #[.slice none 0 0] 32))
  refine (of_es _).mono ?_
  rintro e2 w2 ⟨g, c, rfl, hc, hb⟩
  have HB2 := Lib.hid (chain hB hb)
  have HC2 := Lib.hid hc
  clear hb hB hc
  go_wp2_with fail
  exact bodyPost_ret (v := .tuple #[.slice (some ⟨g, 0, none⟩) 1 c, .bool true]) (by simp [results, Tryz.f6, go_sem]) rfl ⟨_, _, rfl, HC2.out, HB2.out⟩
theorem input_z (g : Nat) (w : World) (hg : w.cell? ⟨g, 0, none⟩ = some (.string ⟨#[]⟩)) (hg1 : w.cell? ⟨g, 1, none⟩ = some (.slice none 0 0)) : Calls Tryz.prog 6 #[.agg #[.slice (some ⟨g, 0, none⟩) 1 1]] w (DPost w (.tuple #[.slice none 0 0, .bool false])) := by
  go_enter Tryz.func6, Tryz.ntmps6
  go_wp2_with fail
  have hB := ((Below.refl _ w).alloc (Nat.le_refl _) (.cells #[.slice (some ⟨g, 0, none⟩) 1 1] 32))
  refine (of_z g _ _ (cell_alloc_l _ hg) (cell_alloc_l _ hg1)).mono ?_
  rintro e2 w2 ⟨rfl, hb⟩
  have HB2 := Lib.hid (chain hB hb)
  clear hb hB
  go_wp2_with fail
  exact bodyPost_ret (v := .tuple #[.slice none 0 0, .bool false]) (by simp [results, Tryz.f6, go_sem]) rfl ⟨rfl, HB2.out⟩
end Go.Proofs.YtnokgaipepejfaaGreatDoor
