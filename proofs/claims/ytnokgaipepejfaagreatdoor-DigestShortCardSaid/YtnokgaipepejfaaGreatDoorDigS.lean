/-
  Schema of package digest at one definition of zeros.
-/
import Derived.Test.YtnokgaipepejfaaGreatDoorDigC
import Derived.Test.YtnokgaipepejfaaGreatDoorDigR
namespace Go.Proofs.YtnokgaipepejfaaGreatDoor
open Go.RowKit
set_option linter.unusedVariables false
set_option linter.unusedSimpArgs false
def Z32 : List Int := List.replicate 32 0
theorem Z32_len : Z32.length = 32 := by simp [Z32]
theorem schema_z (g : Nat) (w : World) (hg : w.cell? ⟨g, 0, none⟩ = some (.string ⟨#[]⟩)) (hg1 : w.cell? ⟨g, 1, none⟩ = some (.slice none 0 0)) : Calls Tryz.prog 7 #[.agg #[.slice (some ⟨g, 0, none⟩) 1 1]] w (DPost w (.tuple #[.agg (nums .u8 Z32).toArray, .bool false])) := by
  go_enter Tryz.func7, Tryz.ntmps7
  have hb1 := (Below.refl _ w).alloc (Nat.le_refl _) (.cells #[.slice (some ⟨g, 0, none⟩) 1 1] 32)
  have hc1 := cell_new_l w (.slice (some ⟨g, 0, none⟩) 1 1) 32
  have HB1 := Lib.hid hb1
  have hg' := cell_alloc_l (.cells #[.slice (some ⟨g, 0, none⟩) 1 1] 32) hg
  have hg1' := cell_alloc_l (.cells #[.slice (some ⟨g, 0, none⟩) 1 1] 32) hg1
  have HG := Lib.hid hg'
  have HG1 := Lib.hid hg1'
  clear hb1 hg hg1 hg' hg1'
  obtain ⟨hc10, hc11⟩ := hc1
  go_wp2_with ((with_reducible refine gate_dst (N := 2) rfl ?_); refine wpList_alloc_row rfl 22 rfl _ z32 ?_; intro w2 hr2 hb2 hs2; have hk2 := kept hb2 ⟨hc10, hc11⟩; obtain ⟨hk20, hk21⟩ := hk2; have HR2 := Lib.hid hr2; have HB2 := Lib.hid (chain HB1.out hb2); have HG2 := Lib.hid (below_cell hb2 HG.out); have HG12 := Lib.hid (below_cell hb2 HG1.out); have HS2 := Lib.hid hs2; clear hr2 hb2 hs2)
  refine (input_z g w2 HG2.out HG12.out).mono ?_
  rintro e3 w3 ⟨rfl, hb⟩
  have HR3 := Lib.hid ((hb.block (w.heap.size + 1) (by have := HS2.out; simp at this; omega)).trans (by have := HR2.out; simpa using this))
  have HB3 := Lib.hid (chain HB2.out hb)
  clear hb
  have hbd := build0
  have hll := Lib.hid (i32l Z32 Z32_len)
  go_wp2_with (first | ((with_reducible refine gate_dst (N := 13) rfl ?_); refine wpList_build_any (by rfl) 22 _ rfl #[] (by simp) (.agg (nums .u8 Z32).toArray) build0 ?_) | ((with_reducible refine gate_store (t := 22) (p := 2) rfl ?_); (refine wpList_store_row rfl 22 _ _ rfl _ _ rfl rfl 22 _ HR3.out hll.out (by simp [nums, Z32]) (oneCell_nums _ _) ?_)))
  exact bodyPost_ret (v := .tuple #[.agg (nums .u8 Z32).toArray, .bool false]) (results_cell_tmp Tryz.results7 _ _ _ _ _ (0, 0) _ rfl (setRow_heap _ _ _ _ _ _ HR3.out) Tryz.underlying22 rfl hll.out) rfl ⟨rfl, below_setRow HB3.out (by omega) _⟩
end Go.Proofs.YtnokgaipepejfaaGreatDoor
