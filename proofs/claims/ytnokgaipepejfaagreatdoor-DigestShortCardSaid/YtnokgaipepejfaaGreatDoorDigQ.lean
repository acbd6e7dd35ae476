/-
  Text and Alike of the empty schema.
-/
import Derived.Test.YtnokgaipepejfaaGreatDoorDigP
import Derived.Test.YtnokgaipepejfaaGreatDoorQw
namespace Go.Proofs.YtnokgaipepejfaaGreatDoor
open Go.RowKit
set_option linter.unusedVariables false
set_option linter.unusedSimpArgs false
theorem dpost_h {w : World} {v : Value} {f : FuncId} {args : Array Value} (h : Calls Tryz.prog f args w (DPost w v)) : Calls Tryz.prog f args w fun e w' => e = .returned v ∧ Below w.heap.size w w' := h.mono fun _ _ h => h.out
theorem ofs_es (w : World) : Calls Tryz.prog 15 #[.agg #[.func (.func 14) #[] #[]], ES] w (DPost w (.tuple #[.string ⟨#[]⟩, .bool true])) := by
  unfold ES
  go_enter Tryz.func15, Tryz.ntmps15
  go_wp2_with fail
  have h0 := kalloc (.cells #[.slice none 0 0] 32) (cell_new_l w (.func (.func 14) #[] #[]) 43)
  have h1 := cell_new_l (w.alloc (.cells #[.func (.func 14) #[] #[]] 43)) (.slice none 0 0) 32
  rw [World.size_alloc] at h1
  have hB := ((Below.refl _ w).alloc (Nat.le_refl _) (.cells #[.func (.func 14) #[] #[]] 43)).alloc (by simp) (.cells #[.slice none 0 0] 32)
  refine (right_es _).mono ?_
  rintro e2 w2 ⟨rfl, hb⟩
  have h02 := kept hb h0
  have h12 := kept hb h1
  have hs2 := hb.size
  have HB2 := Lib.hid (chain hB hb)
  obtain ⟨hc0, hf0⟩ := h02
  obtain ⟨hc1, hf1⟩ := h12
  clear hb hB h1 h0
  go_wp2_with fail
  have hs2' : w.heap.size + 1 + 1 ≤ w2.heap.size := by simpa using hs2
  clear hs2
  go_region_with (first
    | (go_at_call 18; refine (canon_es _).mono ?_; rintro e3 w3 ⟨rfl, hb3⟩; have hk3 := kept (v := .func (.func 14) #[] #[]) (p := ⟨w.heap.size, 0, none⟩) hb3 ⟨hc0, hf0⟩; obtain ⟨hk30, hk31⟩ := hk3; have HB3 := Lib.hid hb3; clear hb3; unfold ES)
    | (go_at_call 14; refine (print_es _).mono ?_; rintro e4 w4 ⟨rfl, hb4⟩; have HB4 := Lib.hid hb4; clear hb4))
  all_goals (go_wp2_with fail)
  all_goals exact bodyPost_ret (v := .tuple #[.string ⟨#[]⟩, .bool true]) (by simp [results, Tryz.f15, go_sem]) rfl ⟨rfl, (HB2.out.trans ((Below.refl _ _).drew.trans (HB3.out.mono (by exact Nat.le_refl _)) |>.mono HB2.out.size)).trans (HB4.out.mono (Nat.le_trans HB2.out.size HB3.out.size))⟩
theorem text_es (w : World) : Calls Tryz.prog 8 #[ES] w (DPost w (.tuple #[.string ⟨#[]⟩, .bool true])) := by
  unfold ES
  go_enter Tryz.func8, Tryz.ntmps8
  go_wp2_with fail
  have hB := ((Below.refl _ w).alloc (Nat.le_refl _) (.cells #[.slice none 0 0] 32))
  refine (ofs_es _).mono ?_
  rintro e2 w2 ⟨rfl, hb⟩
  have HB2 := Lib.hid (chain hB hb)
  clear hb hB
  go_wp2_with fail
  exact bodyPost_ret (v := .tuple #[.string ⟨#[]⟩, .bool true]) (by simp [results, Tryz.f8, go_sem]) rfl ⟨rfl, HB2.out⟩
theorem alike_es (w : World) : Calls Tryz.prog 10 #[ES, ES] w (DPost w (.bool true)) := by
  unfold ES
  go_enter Tryz.func10, Tryz.ntmps10
  have h0 := kalloc (.cells #[.slice none 0 0] 32) (cell_new_l w (.slice none 0 0) 32)
  have h1 := cell_new_l (w.alloc (.cells #[.slice none 0 0] 32)) (.slice none 0 0) 32
  rw [World.size_alloc] at h1
  have hB := ((Below.refl _ w).alloc (Nat.le_refl _) (.cells #[.slice none 0 0] 32)).alloc (by simp) (.cells #[.slice none 0 0] 32)
  have HB := Lib.hid hB
  clear hB
  go_wp2_with fail
  obtain ⟨W, hW⟩ : ∃ W, (w.alloc (.cells #[.slice none 0 0] 32)).alloc (.cells #[.slice none 0 0] 32) = W := ⟨_, rfl⟩
  rw [hW] at h0 h1 HB ⊢
  clear hW
  have hx0 := wx_cell h0.1 (World.block_lt_of_cell? _ _ h0.1)
  have hx1 := wx_cell h1.1 (World.block_lt_of_cell? _ _ h1.1)
  clear h0 h1
  have hR := fun w' => dpost_h (right_es w')
  have hC := fun w' => dpost_h (canon_es w')
  have hS := fun w' => dpost_h (same_es w')
  unfold ES at hR hC hS
  have HR := Lib.hid hR
  have HC := Lib.hid hC
  have HS := Lib.hid hS
  clear hR hC hS
  refine wp_region_wx (by kernel_rfl) (by kernel_rfl) ?_
  (repeat (first | go_big_quiet_skip | go_big_quiet_step ((go_at_call 16; with_reducible exact calls_wx (HR.out _))) | go_big_quiet_step ((go_at_call 18; with_reducible exact calls_wx (HC.out _))) | go_big_quiet_step ((go_at_call 17; with_reducible exact calls_wx (HS.out _)))))
  refine wpQuiet_nil ?_
  intro w2 hw2
  have hb2 := wx_bel hw2
  clear hw2
  have HB2 := Lib.hid (chain HB.out hb2)
  go_wp2_with fail
  go_ret
  exact ⟨rfl, HB2.out⟩
end Go.Proofs.YtnokgaipepejfaaGreatDoor
