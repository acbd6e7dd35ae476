/-
  A region that draws its order, whose operations only read and whose callees make memory and no more: one walk of the lexical order serves every order. The class of worlds: all that lie below w0.
-/
import Derived.Below
import Derived.BigQuiet
import Derived.Deep.QuietTactic
import Derived.Deep.MidRow
import Derived.Laws.Rows
import Derived.WalkKit
namespace Go.Proofs.YtnokgaipepejfaaGreatDoor
open Go.RowKit
set_option linter.unusedVariables false
/-- A world in which all that was there in w0 is as it was. -/
structure Wx (w0 : World) where
  w : World
  h : Below w0.heap.size w0 w
instance (w0 : World) : Nonempty (Wx w0) := ⟨⟨w0, Below.refl _ _⟩⟩
def Cx (w0 : World) : World → Prop := fun w' => ∃ x : Wx w0, w' = x.w
theorem wx_drew (w : World) : Below w.heap.size w { w with drawn := w.drawn + 1 } := by
  have h := Below.refl w.heap.size w
  exact ⟨h.os, h.tape, h.output, h.size, h.block⟩
theorem wp_region_wx {P : Program} {id : Nat} {Q : Exit → Act → World → Prop} {a : Act} {w : World} {l : List Oper} (hm : P.follows .mixedOrders = true) (hB : Region.lexB .any l.toArray = true)
    (h : wpQuiet P l.toArray (fun w' => ∃ x : Wx w, w' = x.w) (fun a' => ∀ w', (∃ x : Wx w, w' = x.w) → Q .normal a' w') l a) : (Code.region id l.toArray true).wp P Q a w :=
  wp_region_quiet (C := fun w' => ∃ x : Wx w, w' = x.w) hm hB ⟨⟨_, wx_drew w⟩, rfl⟩ (by simpa using h)
/-- A callee that makes memory and no more. -/
theorem calls_wx {P : Program} {f : FuncId} {args : Array Value} {w : World} {x : Wx w} {v : Value} (h : Calls P f args x.w fun e w' => e = .returned v ∧ Below x.w.heap.size x.w w') :
    Calls P f args x.w fun e w'' => e = .returned v ∧ ∃ y : Wx w, w'' = y.w :=
  h.mono fun _ w' ⟨he, hb⟩ => ⟨he, ⟨⟨w', x.h.trans (hb.mono x.h.size)⟩, rfl⟩⟩
theorem gateq {P : Program} {ops : Array Oper} {C : World → Prop} {Q : Act → Prop} {a : Act} {o : Oper} {rest : List Oper} {N : Tmp} (_h : o.dst = some N) (h : wpQuiet P ops C Q (o :: rest) a) : wpQuiet P ops C Q (o :: rest) a := h
/-- The load of a whole variable. -/
theorem wpQuiet_load_row {P : Program} {ops : Array Oper} {w0 : World} {Q : Act → Prop} {a : Act} {o : Oper} {rest : List Oper} (hw : Region.wanted o (yielded ops a.tmps) = true) (ty : TypeId) (x : Operand) (ho : o.op = .load ty x)
    (g : Nat) (hx : a.eval x = .pointer (some ⟨g, 0, none⟩)) (t : TypeId) (cs : Array Value) (fr : Nat × Nat) (d : TypeDesc) (hg : w0.heap[g]? = some (.cells cs t fr))
    (hu : P.underlying ty = some d) (hd : (match d with | .struct _ | .array _ _ => true | _ => false) = true) (hi : (P.info? ty).map (·.size) = some cs.size)
    (h : wpQuiet P ops (fun w' => ∃ x : Wx w0, w' = x.w) Q rest (a.put o.dst (.agg cs))) : wpQuiet P ops (fun w' => ∃ x : Wx w0, w' = x.w) Q (o :: rest) a := by
  refine BigFrame.wpQuiet_want hw fun K hK => ⟨.agg cs, ?_, hK _ h⟩
  rintro w ⟨y, rfl⟩
  have hlt : g < w0.heap.size := (Array.getElem?_eq_some_iff.1 hg).1
  have hg' := (y.h.block g hlt).trans hg
  unfold Oper.quietAt execOp
  simp only [ho, hx, Instr.loadAt, Instr.sureAddr, Sem.run_bind, Sem.run_pure, Result.andThen_ok, run_loadVar_row y.w g t ty cs fr d hg' hu hd hi]
  exact ⟨rfl, rfl⟩
/-- The load of a row that lies in the midst of a block. -/
theorem wpQuiet_load_mid {P : Program} {ops : Array Oper} {w0 : World} {Q : Act → Prop} {a : Act} {o : Oper} {rest : List Oper} (hw : Region.wanted o (yielded ops a.tmps) = true) (ty : TypeId) (x : Operand) (ho : o.op = .load ty x)
    (b k : Nat) (hx : a.eval x = .pointer (some ⟨b, k, none⟩)) (cs : List Value) (d : TypeDesc) (hc : w0.rangeAt b k cs) (hb : b < w0.heap.size)
    (hu : P.underlying ty = some d) (hd : d.isRow = true) (hi : (P.info? ty).map (·.size) = some cs.length)
    (h : wpQuiet P ops (fun w' => ∃ x : Wx w0, w' = x.w) Q rest (a.put o.dst (.agg cs.toArray))) : wpQuiet P ops (fun w' => ∃ x : Wx w0, w' = x.w) Q (o :: rest) a := by
  refine BigFrame.wpQuiet_want hw fun K hK => ⟨.agg cs.toArray, ?_, hK _ h⟩
  rintro w ⟨y, rfl⟩
  have hc' : y.w.rangeAt b k cs := fun j v hv => (y.h.cell (p := ⟨b, k + j, none⟩) hb).trans (hc j v hv)
  unfold Oper.quietAt execOp
  simp only [ho, hx, Instr.loadAt, Instr.sureAddr, Sem.run_bind, Sem.run_pure, Result.andThen_ok, run_loadVar_mid y.w b k ty cs d hc' hu hd hi]
  exact ⟨rfl, rfl⟩
/-- A cell, in all these worlds. -/
theorem wx_cell {w : World} {p : Addr} {v : Value} (h : w.cell? p = some v) (hb : p.block < w.heap.size) : ∀ x : Wx w, x.w.cell? p = some v := fun x => (x.h.cell hb).trans h
theorem wx_bel {w0 w' : World} (h : ∃ x : Wx w0, w' = x.w) : Below w0.heap.size w0 w' := by obtain ⟨x, rfl⟩ := h; exact x.h
end Go.Proofs.YtnokgaipepejfaaGreatDoor
