/-
  Text of the empty schema, and Alike of two of them.
-/
import Derived.Test.YtnokgaipepejfaaGreatDoorDigC
import Derived.Lib.UnsafeStr
namespace Go.Proofs.YtnokgaipepejfaaGreatDoor
open Go.RowKit
set_option linter.unusedVariables false
set_option linter.unusedSimpArgs false
theorem cell_new2 (W : World) (u v : Value) (t : TypeId) : (W.alloc (.cells #[u, v] t)).cell? ⟨W.heap.size, 0, none⟩ = some u ∧ (W.alloc (.cells #[u, v] t)).cell? ⟨W.heap.size, 1, none⟩ = some v := by
  have h := World.alloc_heap_new W (.cells #[u, v] t)
  constructor <;> (unfold World.cell?; simp only [h]; rfl)
theorem bstring_es (b : Nat) (w : World) (h0 : w.cell? ⟨b, 0, none⟩ = some (.pointer none)) (h1 : w.cell? ⟨b, 1, none⟩ = some (.slice none 0 0)) : Calls Tryz.prog 33 #[.pointer (some ⟨b, 0, none⟩)] w (DPost w (.string ⟨#[]⟩)) := by
  go_enter Tryz.func33, Tryz.ntmps33
  go_wp2_with fail
  have hq1 : ∀ W : World, (Builtin.unsafeSliceData_ #[27] 109 #[.slice none 0 0]).run Tryz.prog W = .ok (.pointer none) W := fun W => Lib.run_unsafeSliceData_nil ..
  have hq2 : ∀ W : World, (Builtin.unsafeString_ #[109, 3] 9 #[.pointer none, .int .i64 0]).run Tryz.prog W = .ok (.string .empty) W := fun W => Lib.run_unsafeString_none ..
  go_region
  all_goals (go_wp2_with fail)
  all_goals go_ret
  all_goals exact ⟨rfl, (Below.refl _ _).drew⟩
theorem print_es (w : World) : Calls Tryz.prog 14 #[ES] w (DPost w (.tuple #[.string ⟨#[]⟩, .bool true])) := by
  unfold ES
  go_enter Tryz.func14, Tryz.ntmps14
  go_wp2_with fail
  have hB := ((Below.refl _ w).alloc (Nat.le_refl _) (.cells #[.slice none 0 0] 32))
  have h0 := cell_new_l w (.slice none 0 0) 32
  refine (form_es _).mono ?_
  rintro e2 w2 ⟨rfl, hb⟩
  have hk := kept hb h0
  obtain ⟨hk1, hk2⟩ := hk
  have hs2 := hb.size
  rw [World.size_alloc] at hs2
  have HB2 := Lib.hid (chain hB hb)
  clear hb hB h0
  have hx := kalloc (.cells #[.func (.func 30) #[.pointer (some ⟨w2.heap.size, 0, none⟩)] #[]] 72) (kalloc (.cells #[.pointer none, .slice none 0 0] 71) ⟨hk1, hk2⟩)
  obtain ⟨hx1, hx2⟩ := hx
  go_wp2_with fail
  go_loopw [21] (fun n wr => n = .int .i64 0 ∧ ((w2.alloc (.cells #[.pointer none, .slice none 0 0] 71)).alloc (.cells #[.func (.func 30) #[.pointer (some ⟨w2.heap.size, 0, none⟩)] #[]] 72) = wr)) (fun n _ => 0)
  case atStart => exact ⟨rfl, rfl⟩
  case round =>
    obtain ⟨rfl, rfl⟩ := hrel
    have hB := (HB2.out.alloc (by omega) (.cells #[.pointer none, .slice none 0 0] 71)).alloc (by simp; omega) (.cells #[.func (.func 30) #[.pointer (some ⟨w2.heap.size, 0, none⟩)] #[]] 72)
    have HB3 := Lib.hid hB
    clear hB
    have hp0 : ((w2.alloc (.cells #[.pointer none, .slice none 0 0] 71)).alloc (.cells #[.func (.func 30) #[.pointer (some ⟨w2.heap.size, 0, none⟩)] #[]] 72)).cell? ⟨w2.heap.size, 0, none⟩ = some (.pointer none) := cell_alloc_l _ (cell_new2 w2 (.pointer none) (.slice none 0 0) 71).1
    have hp1 : ((w2.alloc (.cells #[.pointer none, .slice none 0 0] 71)).alloc (.cells #[.func (.func 30) #[.pointer (some ⟨w2.heap.size, 0, none⟩)] #[]] 72)).cell? ⟨w2.heap.size, 1, none⟩ = some (.slice none 0 0) := cell_alloc_l _ (cell_new2 w2 (.pointer none) (.slice none 0 0) 71).2
    go_wp2_with fail
    refine (bstring_es _ _ hp0 hp1).mono ?_
    rintro e4 w4 ⟨rfl, hb⟩
    have HB4 := Lib.hid (chain HB3.out hb)
    clear hb
    go_wp2_with fail
    exact bodyPost_ret (v := .tuple #[.string ⟨#[]⟩, .bool true]) (by simp [results, Tryz.f14, go_sem]) rfl ⟨rfl, HB4.out⟩
end Go.Proofs.YtnokgaipepejfaaGreatDoor
