/-
  The contract of package lex's Same: two lists have the same kinds and texts.
-/
import Derived.Test.YtepfgckaapmeoaaDoorLexTok
import Derived.Test.YtepfgckaapmeoaaDoorKd
import Derived.Outline
namespace Go.Proofs.YtepfgckaapmeoaaDoor
open Go.RowKit Go.Proofs.YtepfgckaapmeoaaDoorW.PrintWords Go.Proofs.YtepfgckaapmeoaaDoorW.PrintLast Go.Proofs.YtepfgckaapmeoaaDoorW.PrintMore Go.Proofs.YtepfgckaapmeoaaDoor.PRef
set_option linter.unusedVariables false

/-- What of a token counts. -/
def keyT (t : S36) : Int × List UInt8 := (t.f0, t.f1.data.toList)
def sameT (x y : S36) : Bool := decide (keyT x = keyT y)
/-- Two lists have the same kinds and texts. -/
def sameL (a b : List S36) : Bool := decide (a.map keyT = b.map keyT)
set_option maxHeartbeats 1000000 in
theorem same1_any (x y : S36) (W : World) : Calls Tryd.prog 35 #[.agg #[.int .i64 x.f0, .string x.f1, .int .i64 x.f2], .agg #[.int .i64 y.f0, .string y.f1, .int .i64 y.f2]] W fun e w' => e = .returned (.bool (sameT x y)) ∧ Below W.heap.size W w' := by
  go_enter Tryd.func35, Tryd.ntmps35
  go_wp2
  all_goals go_ret
  all_goals refine ⟨ret_bool ?_, by (repeat' (first | exact Below.refl _ _ | refine Below.alloc ?_ ?_ _)) <;> simp⟩
  all_goals rw [Bool.eq_iff_iff]
  all_goals simp [sameT, keyT, ByteArray.toList_eq, *]
theorem take_rd' (l : List S36) (k : Nat) (h : k < l.length) : l.take (k + 1) = l.take k ++ [rd_T36 l (k : Int)] := by
  rw [List.take_succ_eq_append_getElem h]
  congr 2
  unfold rd_T36
  rw [Int.toNat_natCast, List.getD_eq_getElem?_getD, List.getElem?_eq_getElem h]; rfl
structure SameRel (w : World) (a b : List S36) (k : Nat) (n : Value) (wr : World) : Prop where
  hk : k ≤ a.length
  hn : n = .int .i64 (k : Int)
  hS : (a.take k).map keyT = (b.take k).map keyT
  hB : Below w.heap.size w wr
structure SamePost (w : World) (a b : List S36) (e : Ending) (w' : World) : Prop where
  out : e = .returned (.bool (sameL a b)) ∧ Below w.heap.size w w'
theorem same_step {a b : List S36} {k : Nat} (ha : k < a.length) (hb : k < b.length) (hs : (a.take k).map keyT = (b.take k).map keyT) (ht : sameT (rd_T36 a k) (rd_T36 b k) = true) : (a.take (k + 1)).map keyT = (b.take (k + 1)).map keyT := by
  rw [take_rd' a k ha, take_rd' b k hb, List.map_append, List.map_append, hs]
  congr 1
  exact congrArg (fun z => [z]) (of_decide_eq_true ht)
theorem same_stop {a b : List S36} {k : Nat} (ha : k < a.length) (hb : k < b.length) (ht : sameT (rd_T36 a k) (rd_T36 b k) = false) : sameL a b = false := by
  unfold sameL
  refine decide_eq_false fun h => of_decide_eq_false ht ?_
  have h1 : (a.map keyT)[k]? = (b.map keyT)[k]? := by rw [h]
  rw [List.getElem?_map, List.getElem?_map, List.getElem?_eq_getElem ha, List.getElem?_eq_getElem hb] at h1
  have e1 : rd_T36 a k = a[k] := by
    unfold rd_T36; rw [Int.toNat_natCast, List.getD_eq_getElem?_getD, List.getElem?_eq_getElem ha]; rfl
  have e2 : rd_T36 b k = b[k] := by
    unfold rd_T36; rw [Int.toNat_natCast, List.getD_eq_getElem?_getD, List.getElem?_eq_getElem hb]; rfl
  rw [e1, e2]
  simpa using h1
theorem same_all {a b : List S36} {k : Nat} (hn : ¬ k < a.length) (hk : k ≤ a.length) (hl : a.length = b.length) (hs : (a.take k).map keyT = (b.take k).map keyT) : sameL a b = true := by
  rw [List.take_of_length_le (by omega), List.take_of_length_le (by omega)] at hs
  exact decide_eq_true hs
theorem same_len {a b : List S36} (hl : ¬ a.length = b.length) : sameL a b = false := by
  refine decide_eq_false fun h => hl ?_
  have := congrArg List.length h
  simpa using this

set_option maxHeartbeats 4000000 in
set_option maxRecDepth 100000 in
theorem EqualFunc_any (A : Option Addr) (c : Nat) (a : List S36) (B : Option Addr) (d : Nat) (b : List S36) (w : World) (hra : Kd.C k36 w A a.length a) (hrb : Kd.C k36 w B b.length b) (hla : a.length ≤ 1000000) :
    Calls Tryd.prog 34 #[.slice A a.length c, .slice B b.length d, .func (.func 35) #[] #[]] w (SamePost w a b) := by
  have HA := Aside0.mk hra
  have HBb := Aside0.mk hrb
  clear hra hrb
  by_cases hlen : a.length = b.length
  · have hb1 : ((a.length : Int) != (b.length : Int)) = false := by rw [hlen]; simp
    have hb2 : (a.length != b.length) = false := by rw [hlen]; simp
    have HL := Aside0.mk hlen
    clear hlen
    go_enter Tryd.func34, Tryd.ntmps34
    go_wp2_with fail
    go_loopw [17] (fun n wr => ∃ k : Nat, SameRel w a b k n wr) (fun n _ => a.length - (intOf n).toNat)
    case atStart => exact ⟨0, Nat.zero_le _, rfl, rfl, Below.refl _ _⟩
    case round =>
      obtain ⟨k, hI⟩ := hrel
      obtain ⟨hk, rfl, hS, hB⟩ := hI
      have HS := Aside0.mk hS
      have HB := Aside0.mk hB
      clear hS hB
      by_cases hlt : k < a.length
      · have hltb : k < b.length := by have := HL.out; omega
        obtain ⟨ad, e, h0, h1, h2⟩ := at_T36 HA.out (k : Int) (by omega) (by omega)
        obtain ⟨bd, e', g0, g1, g2⟩ := at_T36 HBb.out (k : Int) (by omega) (by omega)
        cases e
        cases e'
        rw [Int.toNat_natCast] at h0 h1 h2 g0 g1 g2
        replace h0 := (HB.out.cell (World.block_lt_of_cell? w _ h0)).trans h0
        replace h1 := (HB.out.cell (World.block_lt_of_cell? w _ h1)).trans h1
        replace h2 := (HB.out.cell (World.block_lt_of_cell? w _ h2)).trans h2
        replace g0 := (HB.out.cell (World.block_lt_of_cell? w _ g0)).trans g0
        replace g1 := (HB.out.cell (World.block_lt_of_cell? w _ g1)).trans g1
        replace g2 := (HB.out.cell (World.block_lt_of_cell? w _ g2)).trans g2
        have p0 := World.block_lt_of_cell? wr _ g0
        have p1 := World.block_lt_of_cell? wr _ g1
        have p2 := World.block_lt_of_cell? wr _ g2
        go_wp2_with fail
        refine (same1_any (rd_T36 a k) (rd_T36 b k) _).mono ?_
        rintro e3 w3 ⟨rfl, hb3⟩
        have HB3 : Aside0 (Below w.heap.size w w3) := ⟨by
          have h := hb3.mono (B' := w.heap.size) (by have := HB.out.size; simp; omega)
          exact ((HB.out.alloc HB.out.size _).alloc (by have := HB.out.size; simp; omega) _).trans h⟩
        clear hb3 h0 h1 h2 g0 g1 g2 p0 p1 p2
        cases hst : sameT (rd_T36 a k) (rd_T36 b k) with
        | true =>
          have HT := Aside0.mk hst
          clear hst
          go_wp2_with fail
          go_roundw
          case rel => exact ⟨k + 1, hlt, by go_num, same_step hlt hltb HS.out HT.out, HB3.out⟩
          case measure => simp [intOf]; omega
        | false =>
          have HT := Aside0.mk hst
          clear hst
          go_wp2_with fail
          go_ret
          exact ⟨ret_bool (same_stop hlt hltb HT.out).symm, HB3.out⟩
      · go_wp2_with fail
        go_ret
        exact ⟨ret_bool (same_all hlt hk HL.out HS.out).symm, HB.out⟩
  · have hb1 : ((a.length : Int) != (b.length : Int)) = true := by rw [bne_iff_ne]; omega
    have hb2 : (a.length != b.length) = true := by rw [bne_iff_ne]; omega
    have HL := Aside0.mk hlen
    clear hlen
    go_enter Tryd.func34, Tryd.ntmps34
    go_wp2_with fail
    go_ret
    exact ⟨ret_bool (same_len HL.out).symm, Below.refl _ _⟩
set_option maxHeartbeats 1000000 in
theorem Same_any (A : Option Addr) (c : Nat) (a : List S36) (B : Option Addr) (d : Nat) (b : List S36) (w : World) (hra : Kd.C k36 w A a.length a) (hrb : Kd.C k36 w B b.length b) (hla : a.length ≤ 1000000) :
    Calls Tryd.prog 16 #[.slice A a.length c, .slice B b.length d] w (SamePost w a b) := by
  have HA := Aside0.mk hra
  have HBb := Aside0.mk hrb
  clear hra hrb
  go_enter Tryd.func16, Tryd.ntmps16
  go_wp2_with fail
  refine (EqualFunc_any A c a B d b w HA.out HBb.out hla).mono ?_
  rintro e2 w2 ⟨rfl, hb⟩
  have HB := Aside0.mk hb
  clear hb
  go_wp2_with fail
  go_ret
  exact ⟨rfl, HB.out⟩
end Go.Proofs.YtepfgckaapmeoaaDoor
