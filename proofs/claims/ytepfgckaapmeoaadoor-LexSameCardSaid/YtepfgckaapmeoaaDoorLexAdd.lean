/-
  The contract of the closure in package lex's Tokens that appends a token.
-/
import Derived.Test.YtepfgckaapmeoaaDoorLexRun
import Derived.Test.YtepfgckaapmeoaaDoorPRefx3
namespace Go.Proofs.YtepfgckaapmeoaaDoor
open Go.RowKit Go.Proofs.YtepfgckaapmeoaaDoorW.PrintWords Go.Proofs.YtepfgckaapmeoaaDoorW.PrintLast Go.Proofs.YtepfgckaapmeoaaDoorW.PrintMore Go.Proofs.YtepfgckaapmeoaaDoor.PRef
set_option linter.unusedVariables false

theorem infoTok : (Tryd.prog.info? 36).map (fun i => (i.zero, i.size, i.bytes)) = some (some (.agg #[(.int .i64 0), (.string ⟨#[]⟩), (.int .i64 0)]), 3, 32) := by kernel_rfl
def Added (kd : Int) (t : ByteArray) (b4 b5 base : Nat) (acc : List S36) (i : Nat) (W w' : World) : Prop :=
  ∃ v', w'.heap[b4]? = some (.cells #[v'] 23 (0, 0)) ∧ w'.heap[b5]? = some (.cells #[.int .i64 ((i + t.size : Nat) : Int)] 3 (0, 0)) ∧ Kd.R k36 36 w' base (fun _ => True) v' (acc ++ [⟨kd, t, (i : Int)⟩]) ∧ Below base W w'

theorem added_mk {kd : Int} {t : ByteArray} {b4 b5 base : Nat} {v v1 : Value} {acc : List S36} {i : Nat} {W w1 : World} (g4 : w1.heap[b4]? = some (.cells #[v] 23 (0, 0))) (g5 : w1.heap[b5]? = some (.cells #[.int .i64 (i : Int)] 3 (0, 0)))
    (ho : Kd.R k36 36 w1 base (fun _ => True) v1 (acc ++ [⟨kd, t, (i : Int)⟩])) (hb : Below base W w1) (hb4 : base ≤ b4) (hb5 : base ≤ b5) (hne : ¬ b5 = b4) :
    Added kd t b4 b5 base acc i W ((w1.setCell ⟨b4, 0, none⟩ v1).setCell ⟨b5, 0, none⟩ (.int .i64 ((i + t.size : Nat) : Int))) := by
  have a4 : (w1.setCell ⟨b4, 0, none⟩ v1).heap[b4]? = some (.cells #[v1] 23 (0, 0)) := by simpa using blk_set g4 0 v1
  have a5 : (w1.setCell ⟨b4, 0, none⟩ v1).heap[b5]? = some (.cells #[.int .i64 (i : Int)] 3 (0, 0)) := blk_far g5 (p := ⟨b4, 0, none⟩) hne v1
  refine ⟨v1, blk_far a4 (p := ⟨b5, 0, none⟩) (fun h => hne h.symm) _, by simpa using blk_set a5 0 (.int .i64 ((i + t.size : Nat) : Int)), ?_, (hb.setCell hb4 _).setCell hb5 _⟩
  exact Kd.R_set (Kd.R_set ho g4 (by decide) 0 v1) a5 (by decide) 0 _

set_option maxHeartbeats 2000000 in
set_option maxRecDepth 100000 in
theorem add_any (kd : Int) (t : ByteArray) (b4 b5 base : Nat) (v : Value) (acc : List S36) (i : Nat) (W : World)
    (h4 : W.heap[b4]? = some (.cells #[v] 23 (0, 0))) (h5 : W.heap[b5]? = some (.cells #[.int .i64 (i : Int)] 3 (0, 0))) (hR : Kd.R k36 36 W base (fun _ => True) v acc)
    (hb4 : base ≤ b4) (hb5 : base ≤ b5) (hacc : acc.length ≤ 1000000) (hi : i + t.size ≤ 1000000000000) (hbase : base ≤ W.heap.size) :
    Calls Tryd.prog 20 #[.int .i64 kd, .string t, .pointer (some ⟨b4, 0, none⟩), .pointer (some ⟨b5, 0, none⟩)] W fun e w' => e = .returned (.tuple #[]) ∧ Added kd t b4 b5 base acc i W w' := by
  have c4 : W.cell? ⟨b4, 0, none⟩ = some v := blk_cell h4 0
  have c5 : W.cell? ⟨b5, 0, none⟩ = some (.int .i64 (i : Int)) := blk_cell h5 0
  have H4 := Aside0.mk h4
  have H5 := Aside0.mk h5
  have HR := Aside0.mk hR
  have hne : ¬ b5 = b4 := blk_ne h5 h4 (by decide)
  have n4 : some b4 ≠ v.ownBlock := Kd.R_ne hR h4 (by decide)
  have n5 : some b5 ≠ v.ownBlock := Kd.R_ne hR h5 (by decide)
  have N4 := Aside0.mk n4
  have N5 := Aside0.mk n5
  clear h4 h5 hR n4 n5
  go_enter Tryd.func20, Tryd.ntmps20
  go_wp2_with ((with_reducible refine gate_builtin (b := .append) (xs := #[.tmp 6, .tmp 11]) rfl ?_); at_builtin; refine Kd.R_append k36 (w0 := W) base rfl (.tmp 6) (.tmp 11) 23 36 (.agg #[(.int .i64 0), (.string ⟨#[]⟩), (.int .i64 0)]) 32 rfl Tryd.underlying23 infoTok rfl (by decide) (by omega) v acc (⟨kd, t, (i : Int)⟩ : S36) [.int .i64 kd, .string t, .int .i64 (i : Int)] (fun _ => True) (fun _ => False) rfl rfl (k36_mkM _ _ _ (⟨kd, t, (i : Int)⟩ : S36)) (fun _ hk => hk.elim) (fun _ _ => trivial) HR.out (Below.refl _ _) hbase (by omega) ?_; intro v1 w1 ho hb hg hat; obtain ⟨A1, c1, rfl⟩ := Kd.R_slice ho; have g4 := Aside0.mk (blk_grown H4.out hg N4.out); have g5 := Aside0.mk (blk_grown H5.out hg N5.out); have ho1 := Aside0.mk ho; have hb1 := Aside0.mk hb; clear hat hg c4 c5 ho hb; have d4 : w1.cell? ⟨b4, 0, none⟩ = some v := blk_cell g4.out 0; have e4 : w1.frozen? ⟨b4, 0, none⟩ = false := blk_frozen g4.out 0; have d5 : w1.cell? ⟨b5, 0, none⟩ = some (.int .i64 (i : Int)) := blk_cell g5.out 0; have e5 : w1.frozen? ⟨b5, 0, none⟩ = false := blk_frozen g5.out 0)
  go_end0
  exact ⟨rfl, added_mk g4.out g5.out (by have h := ho1.out; rw [List.length_append] at h; exact h) hb1.out hb4 hb5 hne⟩
end Go.Proofs.YtepfgckaapmeoaaDoor
