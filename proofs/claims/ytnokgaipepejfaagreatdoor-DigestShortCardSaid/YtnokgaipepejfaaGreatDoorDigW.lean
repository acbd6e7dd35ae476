/-
  The law's awake over package digest.
-/
import Derived.Test.YtnokgaipepejfaaGreatDoorDigH
import Derived.Test.YtnokgaipepejfaaGreatDoorDigS
import Derived.Test.YtnokgaipepejfaaGreatDoorDigQ
namespace Go.Proofs.YtnokgaipepejfaaGreatDoor
open Go.RowKit Go.Proofs.YtnokgaipepejfaaGreatDoorW.PrintWords Go.Proofs.YtnokgaipepejfaaGreatDoorW.PrintLast Go.Proofs.YtnokgaipepejfaaGreatDoorW.PrintMore
set_option linter.unusedVariables false
set_option linter.unusedSimpArgs false
theorem same_one (g c g' c' : Nat) (w : World) (h : w.cell? ⟨g, 0, none⟩ = some (.int .u8 0)) (h' : w.cell? ⟨g', 0, none⟩ = some (.int .u8 0)) :
    Calls Tryz.prog 9 #[.slice (some ⟨g, 0, none⟩) 1 c, .slice (some ⟨g', 0, none⟩) 1 c'] w (DPost w (.bool true)) := by
  go_enter Tryz.func9, Tryz.ntmps9
  go_wp2_with fail
  go_loopw [5] (fun n wr => ∃ i : Nat, i ≤ 1 ∧ n = .int .i64 (i : Int) ∧ Below w.heap.size w wr) (fun n _ => (1 - (intOf n)).toNat)
  case atStart => exact ⟨0, by omega, rfl, Below.refl _ _⟩
  case round =>
    obtain ⟨i, hi, rfl, hB⟩ := hrel
    have hk := below_cell hB h
    have hk' := below_cell hB h'
    rcases (by omega : i = 0 ∨ i = 1) with rfl | rfl
    · go_wp2_with fail
      go_region
      all_goals (go_wp2_with fail)
      all_goals go_roundw
      all_goals first | exact ⟨1, by omega, rfl, hB.drew⟩ | (simp [intOf])
    · go_wp2_with fail
      go_ret
      exact ⟨rfl, hB⟩
theorem mk_one : ∀ W : World, (Instr.makeSlice 30 (.int .i64 1) (.int .i64 1)).run Tryz.prog W = .ok (.slice (some ⟨W.heap.size, 0, none⟩) 1 1) (W.alloc (.cells #[.string ⟨#[]⟩, .slice none 0 0] 49)) := fun W => by kernel_rfl
theorem dp_h {w : World} {v : Value} {f : FuncId} {args : Array Value} (h : Calls Tryz.prog f args w (DPost w v)) : Calls Tryz.prog f args w fun e w' => e = .returned v ∧ Below w.heap.size w w' := h.mono fun _ _ h => h.out
def D1 : List Int := 171 :: 1 :: List.replicate 30 0
theorem D1_len : D1.length = 32 := by simp [D1]
theorem D1_byt : Byt D1 := by
  intro x hx
  rcases List.mem_cons.1 hx with rfl | hx
  · omega
  · rcases List.mem_cons.1 hx with rfl | hx
    · omega
    · have := List.eq_of_mem_replicate hx
      omega
theorem D1_str : strOf (hexs (D1.take 4)) = ⟨#[97, 98, 48, 49, 48, 48, 48, 48]⟩ := by decide
set_option maxRecDepth 100000 in
set_option maxHeartbeats 2000000 in
theorem awake_any (w : World) : Calls Tryz.prog 4 #[] w (DPost w (.bool true)) := by
  have hIE := fun w' => input_es w'
  unfold ES at hIE
  go_enter Tryz.func4, Tryz.ntmps4
  go_wp2_with fail
  refine (hIE _).mono ?_
  rintro e1 w1 ⟨g, c, rfl, hc1, hb1⟩
  have HB1 := Lib.hid hb1
  have HC1 := Lib.hid hc1
  clear hb1 hc1 hIE
  have hmk := mk_one
  go_wp2_with fail
  have hz := cell_new2 w1 (.string ⟨#[]⟩) (.slice none 0 0) 49
  have hb2 : Below w1.heap.size w1 (w1.alloc (.cells #[.string ⟨#[]⟩, .slice none 0 0] 49)) := (Below.refl _ _).alloc (Nat.le_refl _) _
  refine (schema_z w1.heap.size _ hz.1 hz.2).mono ?_
  rintro e3 w3 ⟨rfl, hb3⟩
  have hb3' := chain hb2 hb3
  have HB3 := Lib.hid (chain HB1.out hb3')
  have HC3 := Lib.hid (below_cell hb3' HC1.out)
  clear hb2 hb3 hb3' hz hmk
  have hll := Lib.hid (i32l Z32 Z32_len)
  have hsz := Lib.hid (show (nums .u8 Z32).toArray.size = (nums .u8 (List.replicate 32 0)).toArray.size by simp [nums, Z32])
  obtain ⟨Z, hZ⟩ : ∃ Z, Z = (nums .u8 Z32).toArray := ⟨_, rfl⟩
  have hZ1 := Lib.hid (show Z.all (·.oneCell') = true by rw [hZ]; exact oneCell_nums _ _)
  rw [← hZ] at hll hsz ⊢
  clear hZ
  go_wp2_with (first | ((with_reducible refine gate_dst (N := 3) rfl ?_); refine wpList_alloc_row rfl 22 rfl _ z32 ?_; intro w4 hr4 hb4 hs4; have HR4 := Lib.hid hr4; have HB4 := Lib.hid hb4; have HC4 := Lib.hid (below_cell hb4 HC3.out); clear hr4 hb4 hs4) | ((with_reducible refine gate_store (t := 22) (p := 3) rfl ?_); (refine wpList_store_row rfl 22 _ _ rfl _ _ rfl rfl 22 _ HR4.out hll.out hsz.out.symm hZ1.out ?_)))
  have hbs := below_setRow (B := w3.heap.size) HB4.out (Nat.le_refl _) Z
  have HB5 := Lib.hid (chain HB3.out hbs)
  have HC5 := Lib.hid (below_cell hbs HC3.out)
  clear hbs
  generalize w4.setRow w3.heap.size Z = w5 at *
  have hTX := fun w' => dp_h (text_es w')
  have hAL := fun w' => dp_h (alike_es w')
  unfold ES at hTX hAL
  have HAL := Lib.hid hAL
  clear hAL
  refine (hTX w5).mono ?_
  rintro e6 w6 ⟨rfl, hb6⟩
  have HB6 := Lib.hid (chain HB5.out hb6)
  have HC6 := Lib.hid (below_cell hb6 HC5.out)
  clear hb6 hTX
  go_wp2_with fail
  have hb7 : Below w6.heap.size w6 (w6.alloc (.cells #[.int .u8 0] 5)) := (Below.refl _ _).alloc (Nat.le_refl _) _
  have hn := cell_new_l w6 (.int .u8 0) 5
  refine (same_one g c w6.heap.size 1 _ (below_cell hb7 HC6.out) hn.1).mono ?_
  rintro e8 w8 ⟨rfl, hb8⟩
  have HB8 := Lib.hid (chain (chain HB6.out hb7) hb8)
  clear hb7 hb8 hn
  go_wp2_with fail
  refine (HAL.out w8).mono ?_
  rintro e9 w9 ⟨rfl, hb9⟩
  have HB9 := Lib.hid (chain HB8.out hb9)
  clear hb9
  have hsh := fun w' => (short_any D1 D1_len D1_byt w')
  rw [D1_str] at hsh
  have HD := Lib.hid (show (nums .u8 (171 :: 1 :: List.replicate 30 0)).toArray = (nums .u8 D1).toArray from rfl)
  obtain ⟨DV, hDV⟩ : ∃ DV, DV = (nums .u8 D1).toArray := ⟨_, rfl⟩
  have HSH := Lib.hid hsh
  rw [← hDV] at HSH
  have hbd := build1
  have hbd' : ∀ W : World, (Instr.build 22 #[(0, .int .u8 171), (1, .int .u8 1)]).run Tryz.prog W = .ok (.agg DV) W := fun W => by rw [hDV]; exact build1 W
  have HBD := Lib.hid hbd'
  clear hsh hbd hbd' hDV
  go_wp2_with ((with_reducible refine gate_dst (N := 46) rfl ?_); refine wpList_build_any (by rfl) 22 _ rfl #[(0, .int .u8 171), (1, .int .u8 1)] (by simp only [List.map_toArray, List.map_cons, List.map_nil]; rfl) (.agg DV) HBD.out ?_)
  refine (HSH.out w9).mono ?_
  rintro e10 w10 ⟨rfl, hb10⟩
  have HB10 := Lib.hid (chain HB9.out hb10)
  clear hb10
  go_wp2_with fail
  go_ret
  exact ⟨rfl, HB10.out⟩
end Go.Proofs.YtnokgaipepejfaaGreatDoor
