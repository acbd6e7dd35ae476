/-
  Arrays of 32 bytes in a variable: the words of the walk.
-/
import Derived.Test.YtnokgaipepejfaaGreatDoorDigB
import Derived.Deep.RegionWith
import Derived.Deep.WholeRow
import Derived.Laws.Tables
import Derived.Laws.Rows
import Derived.Laws.CopyOwn
namespace Go.Proofs.YtnokgaipepejfaaGreatDoor
open Go.RowKit
set_option linter.unusedVariables false
set_option linter.unusedSimpArgs false
def nums (k : IntKind) (l : List Int) : List Value := l.map (Value.int k)
theorem nums_length (k : IntKind) (l : List Int) : (nums k l).length = l.length := List.length_map ..
theorem oneCell_nums (k : IntKind) (l : List Int) : (nums k l).toArray.all (·.oneCell') = true := by
  rw [List.all_toArray, List.all_eq_true]
  intro x hx
  obtain ⟨y, _, rfl⟩ := List.mem_map.1 hx
  rfl
theorem z32 : (Tryz.prog.info? 22).map (·.zero) = some (some (.agg (nums .u8 (List.replicate 32 0)).toArray)) := by kernel_rfl
theorem i32b : (Tryz.prog.info? 22).map (·.size) = some 32 := by kernel_rfl
theorem i32l (l : List Int) (h : l.length = 32) : (Tryz.prog.info? 22).map (·.size) = some (nums .u8 l).toArray.size := by rw [List.size_toArray, nums_length, h]; exact i32b
class inductive Aside0 (p : Prop) : Prop | mk (h : p) : Aside0 p
section
variable {P : Program} {ops : Array Oper} {rest : List Oper} {o : Oper} {a : Act} {w : World} {Q : Exit → Act → World → Prop}
theorem gate_dst {N : Tmp} (_hN : o.dst = some N) (h : wpList P ops Q (o :: rest) a w) : wpList P ops Q (o :: rest) a w := h
theorem gate_store {t : TypeId} {p : Tmp} {v : Operand} (_ho : o.op = .store t (.tmp p) v) (h : wpList P ops Q (o :: rest) a w) : wpList P ops Q (o :: rest) a w := h
theorem wpList_alloc_row (hg : o.guard = none) (t : TypeId) (ho : o.op = .alloc t) (cs : Array Value) (hz : (P.info? t).map (·.zero) = some (some (.agg cs)))
    (h : ∀ w' : World, w'.heap[w.heap.size]? = some (.cells cs t (0, 0)) → Below w.heap.size w w' → w'.heap.size = w.heap.size + 1 → wpList P ops Q rest (a.put o.dst (.pointer (some ⟨w.heap.size, 0, none⟩))) w') : wpList P ops Q (o :: rest) a w := by
  refine wpList_plain hg fun K hK => ?_
  obtain ⟨i, hi, hz2⟩ := Option.map_eq_some_iff.1 hz
  unfold Oper.wp execOp
  have hrun : (Instr.alloc t true (.tuple #[])).run P w = .ok (.pointer (some ⟨w.heap.size, 0, none⟩)) (w.alloc (.cells cs t)) := by
    simp [Instr.alloc, zeroValue, typeInfo, hi, hz2, Result.andThen, newVar, newRow, Value.cells]
  simp only [ho, Sem.run_bind, hrun, Result.andThen_ok, Sem.run_pure]
  exact hK _ _ (h _ (World.alloc_heap_new _ _) ((Below.refl _ _).alloc (Nat.le_refl _) _) (by simp))
theorem wpList_build_any (hw : Region.wanted o (yielded ops a.tmps) = true) (t : TypeId) (fs : Array (Nat × Operand)) (ho : o.op = .build t fs)
    (gs : Array (Nat × Value)) (hgs : fs.map (fun p => (p.1, a.eval p.2)) = gs) (v : Value) (hv : ∀ W, (Instr.build t gs).run P W = .ok v W) (h : wpList P ops Q rest (a.put o.dst v) w) : wpList P ops Q (o :: rest) a w := by
  refine BigFrame.wpList_want hw fun K hK => ?_
  subst hgs
  unfold Oper.wp execOp
  simp only [ho, Sem.run_bind, hv, Result.andThen_ok, Sem.run_pure]
  exact hK _ _ h
end
theorem results_cell_tmp {P : Program} {fn : Func} {p q : Tmp} {ty : TypeId} (h : fn.results = #[.cell p ty, .tmp q]) (tmps : Array Value) (w : World) (g : Nat) (t : TypeId) (cs : Array Value) (fr : Nat × Nat) (d : TypeDesc)
    (hp : tmps.getD p undef = .pointer (some ⟨g, 0, none⟩)) (hg : w.heap[g]? = some (.cells cs t fr))
    (hu : P.underlying ty = some d) (hd : (match d with | .struct _ | .array _ _ => true | _ => false) = true) (hi : (P.info? ty).map (·.size) = some cs.size) :
    (results fn tmps).run P w = .ok (.tuple #[.agg cs, tmps.getD q undef]) w := by
  have hp' : tmps[p]?.getD undef = .pointer (some ⟨g, 0, none⟩) := by simpa using hp
  simp [results, h, hp', asAddr, run_loadVar_row w g t ty cs fr d hg hu hd hi]
theorem build0 : ∀ W : World, (Instr.build 22 #[]).run Tryz.prog W = .ok (.agg (nums .u8 (List.replicate 32 0)).toArray) W := fun W => by kernel_rfl
theorem build1 : ∀ W : World, (Instr.build 22 #[(0, .int .u8 171), (1, .int .u8 1)]).run Tryz.prog W = .ok (.agg (nums .u8 (171 :: 1 :: List.replicate 30 0)).toArray) W := fun W => by kernel_rfl
end Go.Proofs.YtnokgaipepejfaaGreatDoor
