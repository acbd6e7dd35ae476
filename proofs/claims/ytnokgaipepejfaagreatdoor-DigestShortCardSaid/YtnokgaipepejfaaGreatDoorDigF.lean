/-
  Package schema's Form of the empty schema.
-/
import Derived.Test.YtnokgaipepejfaaGreatDoorRf
namespace Go.Proofs.YtnokgaipepejfaaGreatDoor
open Go.RowKit
set_option linter.unusedVariables false
set_option linter.unusedSimpArgs false
theorem form_es (w : World) : Calls Tryz.prog 19 #[ES] w (DPost w (.bool true)) := by
  unfold ES
  refine (callsIn_wide (n := 3)).1 ?_
  have hro : Fence.wide.round = none := rfl
  refine callsIn_of_wp_marks Tryz.func19 rfl trivial ?_ hro
  simp only [Tryz.ntmps19, List.size_toArray, List.length_cons, List.length_nil, Nat.reduceAdd, Nat.reduceSub, Array.replicate_succ, Array.replicate_zero, List.push_toArray, List.append_toArray, List.nil_append, List.cons_append]
  gi_wp2
  gi_loopw [14] (fun n wr => n = .int .i64 0 ∧ (w.alloc (.cells #[.slice none 0 0] 32)).alloc (.cells #[.bool false] 4) = wr) (fun n _ => 0)
  case atStart => exact ⟨rfl, rfl⟩
  case round =>
    obtain ⟨rfl, rfl⟩ := hrel
    gi_wp2_with (refine ⟨trivial, ?_⟩; gi_at_call 48; refine (callsIn_wide.2 (members_es _)).mono ?_; rintro e w' ⟨rfl, rfl⟩)
    have c1 := cell_new_l (w.alloc (.cells #[.slice none 0 0] 32)) (.bool false) 4
    have c2 := cell_new_l ((w.alloc (.cells #[.slice none 0 0] 32)).alloc (.cells #[.bool false] 4)) (.slice none 0 0) 32
    simp only [World.size_alloc] at c1 c2
    refine wpIn_rangeFunc_none rfl (by decide) (gf := 77) (lb := #[.pointer (some ⟨w.heap.size + 1 + 1, 0, none⟩)]) (by simp [go_sem, Act.eval]) trivial (enters_of Tryz.func77 (by kernel_rfl) rfl) ?_ ?_
    · intro l W hW
      refine callsIn_wide.2 (mem_none l _ W (below_cell hW c2.1))
    · intro D W hD hW hK
      have hBw : Below w.heap.size w (((w.alloc (.cells #[.slice none 0 0] 32)).alloc (.cells #[.bool false] 4)).alloc (.cells #[.slice none 0 0] 32)) := (((Below.refl _ w).alloc (Nat.le_refl _) _).alloc (by simp) _).alloc (by simp; omega) _
      have hcr : W.cell? ⟨w.heap.size + 1, 0, none⟩ = some (.bool false) := below_cell hW (cell_alloc_l _ c1.1)
      have hfr : W.frozen? ⟨w.heap.size + 1, 0, none⟩ = false := (hW.frozen (p := ⟨w.heap.size + 1, 0, none⟩) (by simp)).trans (frozen_alloc_l _ c1.1 c1.2)
      have hB := chain hBw hW
      simp at hD
      clear hW hBw
      gi_wp2
      have hK' := (KeepsOthers.setCell W ⟨w.heap.size + 1, 0, none⟩ (.bool true)).same D _ hK rfl
      refine ⟨by simp, .inl ⟨_, _, rfl, run_takeDeferred hK', ?_⟩⟩
      have hc5 := cell_kept (World.cell?_setCell_same' W ⟨w.heap.size + 1, 0, none⟩ (.bool true) (by rw [hcr]; rfl)) (grownBy_putObj' _ D (.deferred none)) (fun r e => by cases e; exact ⟨_, hK', rfl⟩)
      refine ⟨.bool true, ?_, rfl, (hB.setCell (p := ⟨w.heap.size + 1, 0, none⟩) (by simp) _).trans (belowK_b (w := w) (Nat.le_refl _) _ D _ _ (by omega) hK' rfl rfl)⟩
      simp [results, Tryz.f19, go_sem, hc5]
end Go.Proofs.YtnokgaipepejfaaGreatDoor
