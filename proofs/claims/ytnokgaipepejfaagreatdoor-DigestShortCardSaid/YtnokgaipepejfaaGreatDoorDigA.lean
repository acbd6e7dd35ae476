/-
  The empty schema through packages name, schema and canon.
-/
import Derived.Test.YtnokgaipepejfaaGreatDoorDigF
namespace Go.Proofs.YtnokgaipepejfaaGreatDoor
open Go.RowKit
set_option linter.unusedVariables false

theorem name_no (w : World) : Calls Tryz.prog 47 #[.string ⟨#[]⟩] w (DPost w (.bool false)) := by
  go_enter Tryz.func47, Tryz.ntmps47
  go_wp2_with fail
  go_ret
  exact ⟨rfl, Below.refl _ _⟩
theorem eqDefs (w : World) : Calls Tryz.prog 35 #[.slice none 0 0, .slice none 0 0, .func (.func 36) #[] #[]] w (DPost w (.bool true)) := by
  go_enter Tryz.func35, Tryz.ntmps35
  go_wp2_with fail
  go_loopw [17] (fun n wr => n = .int .i64 0 ∧ w = wr) (fun n _ => 0)
  case atStart => exact ⟨rfl, rfl⟩
  case round =>
    obtain ⟨rfl, rfl⟩ := hrel
    go_wp2_with fail
    go_ret
    exact ⟨rfl, Below.refl _ _⟩
theorem same_es (w : World) : Calls Tryz.prog 17 #[ES, ES] w (DPost w (.bool true)) := by
  unfold ES
  go_enter Tryz.func17, Tryz.ntmps17
  go_wp2_with fail
  refine (eqDefs _).mono ?_
  rintro e1 w1 ⟨rfl, hb⟩
  have hb1 := chain (((Below.refl _ w).alloc (Nat.le_refl _) (.cells #[.slice none 0 0] 32)).alloc (by simp) (.cells #[.slice none 0 0] 32)) hb
  have HB1 := Lib.hid hb1
  clear hb hb1
  go_wp2_with fail
  go_ret
  exact ⟨rfl, HB1.out⟩
set_option maxRecDepth 100000 in
theorem insDefs (w : World) (f : Value) : Calls Tryz.prog 100 #[.slice none 0 0, .int .i64 0, .int .i64 0, f] w (DPost w (.tuple #[])) := by
  go_enter Tryz.func100, Tryz.ntmps100
  go_wp2_with fail
  go_loopw [8] (fun n wr => n = .int .i64 1 ∧ w = wr) (fun n _ => 0)
  case atStart => exact ⟨rfl, rfl⟩
  case round =>
    obtain ⟨rfl, rfl⟩ := hrel
    go_wp2_with fail
    go_end0
    exact ⟨rfl, Below.refl _ _⟩
set_option maxRecDepth 100000 in
theorem stableDefs (w : World) (f : Value) : Calls Tryz.prog 74 #[.slice none 0 0, .int .i64 0, f] w (DPost w (.tuple #[])) := by
  go_enter Tryz.func74, Tryz.ntmps74
  go_wp2_with fail
  go_loopw [7, 8] (fun a n wr => a = .int .i64 0 ∧ n = .int .i64 20 ∧ w = wr) (fun _ n _ => 0)
  case atStart => exact ⟨rfl, rfl, rfl⟩
  case round =>
    obtain ⟨rfl, rfl, rfl⟩ := hrel
    go_wp2_with fail
    with_reducible refine (insDefs _ _).mono ?_
    rintro e1 w1 ⟨rfl, hb⟩
    have HB1 := Lib.hid hb
    clear hb
    go_wp2_with fail
    go_loopw [6] (fun n wr => n = .int .i64 20 ∧ w1 = wr) (fun n _ => 0)
    case atStart => exact ⟨rfl, rfl⟩
    case round =>
      obtain ⟨rfl, rfl⟩ := hrel
      go_wp2_with fail
      go_end0
      exact ⟨rfl, HB1.out⟩
theorem sortDefs (w : World) (f : Value) : Calls Tryz.prog 45 #[.slice none 0 0, f] w (DPost w (.tuple #[])) := by
  go_enter Tryz.func45, Tryz.ntmps45
  go_wp2_with fail
  refine (stableDefs w f).mono ?_
  rintro e1 w1 ⟨rfl, hb⟩
  have HB1 := Lib.hid hb
  clear hb
  go_wp2_with fail
  go_end0
  exact ⟨rfl, HB1.out⟩
theorem clone_es (w : World) : Calls Tryz.prog 39 #[ES] w (DPost w ES) := by
  unfold ES
  go_enter Tryz.func39, Tryz.ntmps39
  go_wp2_with fail
  go_loopw [12] (fun n wr => n = .int .i64 0 ∧ ((w.alloc (.cells #[.slice none 0 0] 32)).alloc (.cells #[.slice none 0 0] 32)).alloc (.cells #[.slice none 0 0] 32) = wr) (fun n _ => 0)
  case atStart => exact ⟨rfl, rfl⟩
  case round =>
    obtain ⟨rfl, rfl⟩ := hrel
    go_wp2_with fail
    refine bodyPost_ret (v := .agg #[.slice none 0 0]) (by simp [results, Tryz.f39, go_sem]) rfl ⟨rfl, ?_⟩
    (repeat' (first | exact Below.refl _ _ | refine Below.setCell ?_ ?_ _ | refine Below.alloc ?_ ?_ _)) <;> simp <;> omega
theorem canon_es (w : World) : Calls Tryz.prog 18 #[ES] w (DPost w ES) := by
  unfold ES
  go_enter Tryz.func18, Tryz.ntmps18
  go_wp2_with fail
  refine (clone_es _).mono ?_
  rintro e1 w1 ⟨rfl, hb⟩
  have hb2 : Below w.heap.size w ((w.alloc (.cells #[.slice none 0 0] 32)).alloc (.cells #[.slice none 0 0] 32)) := ((Below.refl _ w).alloc (Nat.le_refl _) _).alloc (by simp) _
  have hc1 := below_cell hb (cell_new_l (w.alloc (.cells #[.slice none 0 0] 32)) (.slice none 0 0) 32).1
  have hf1 := (hb.frozen (p := ⟨(w.alloc (.cells #[.slice none 0 0] 32)).heap.size, 0, none⟩) (by simp)).trans (cell_new_l (w.alloc (.cells #[.slice none 0 0] 32)) (.slice none 0 0) 32).2
  rw [World.size_alloc] at hc1 hf1
  have hs1 := hb.size
  have HB1 := Lib.hid (chain hb2 hb)
  clear hb hb2
  unfold ES
  simp only [World.size_alloc] at hs1
  go_wp2_with fail
  go_loopw [13] (fun n wr => n = .int .i64 0 ∧ (w1.alloc (.cells #[.slice none 0 0] 32)) = wr) (fun n _ => 0)
  case atStart => exact ⟨rfl, rfl⟩
  case round =>
    obtain ⟨rfl, rfl⟩ := hrel
    go_wp2_with fail
    have hcd := cell_alloc_l (.cells #[.slice none 0 0] 32) hc1
    have hfd := frozen_alloc_l (.cells #[.slice none 0 0] 32) hc1 hf1
    have hce := (cell_new_l w1 (.slice none 0 0) 32).1
    have hBa := (HB1.out).alloc (by omega) (.cells #[.slice none 0 0] 32)
    refine (sortDefs _ _).mono ?_
    rintro e2 w2 ⟨rfl, hb⟩
    have hcd2 := below_cell hb hcd
    have hce2 := below_cell hb hce
    have hfd2 := (hb.frozen (World.block_lt_of_cell? _ _ hcd)).trans hfd
    have hs2 := hb.size
    have HB2 := Lib.hid (chain hBa hb)
    rw [World.size_alloc] at hs2
    clear hb hBa hcd hce hfd
    go_wp2_with fail
    have hcr := World.cell?_setCell_same' w2 ⟨w.heap.size + 1, 0, none⟩ (.slice none 0 0) (by rw [hcd2]; rfl)
    refine bodyPost_ret (v := .agg #[.slice none 0 0]) (by simp [results, Tryz.f18, go_sem, hcr]) rfl ⟨rfl, ?_⟩
    exact HB2.out.setCell (by simp) _
theorem put_zero (w : World) : Calls Tryz.prog 50 #[.int .u64 0] w fun e w' => ∃ g c, e = .returned (.slice (some ⟨g, 0, none⟩) 1 c) ∧ w'.cell? ⟨g, 0, none⟩ = some (.int .u8 0) ∧ Below w.heap.size w w' := by
  go_enter Tryz.func50, Tryz.ntmps50
  go_wp2_with fail
  go_loopw [0, 3] (fun x v wr => x = .int .u64 0 ∧ v = .slice none 0 0 ∧ w = wr) (fun n _ _ => 0)
  case atStart => exact ⟨rfl, rfl, rfl⟩
  case round =>
    obtain ⟨rfl, rfl, rfl⟩ := hrel
    go_wp2_with fail
    refine bodyPost_ret (v := _) (results_tmp Tryz.results50 _ _ _) rfl ⟨_, _, rfl, ?_, ?_⟩
    · show World.cell? _ _ = _
      unfold World.cell?
      have := World.alloc_heap_new (w.alloc (Obj.cells #[Value.int IntKind.u8 0] 5)) (Obj.cells
          (#[Value.int IntKind.u8 0] ++
            Builtin.zeroCells #[Value.int IntKind.u8 0]
              ((Question.appendCap 1 0 5).cut (w.tape w.drawn (Question.appendCap 1 0 5)) - 1))
          5)
      rw [World.size_alloc] at this
      have h2 : ∀ W : World, W.drew.heap = W.heap := fun _ => rfl
      simp only [h2, this]
      show (#[Value.int IntKind.u8 0] ++ _)[0]? = _
      rw [Array.getElem?_append_left (by simp)]
      rfl
    · exact ((((Below.refl _ w).alloc (Nat.le_refl _) _).alloc (by simp) _).drew)
end Go.Proofs.YtnokgaipepejfaaGreatDoor
