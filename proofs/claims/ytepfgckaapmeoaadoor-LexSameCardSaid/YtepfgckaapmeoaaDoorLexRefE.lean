/-
  What the law's back and the reference's Same and Join compute, as printed, in plain words.
-/
import Derived.Test.YtepfgckaapmeoaaDoorLexRefD
import Derived.Test.YtepfgckaapmeoaaDoorLexJoin
import Derived.Test.YtepfgckaapmeoaaDoorLexSame
namespace Go.Proofs.YtepfgckaapmeoaaDoor
open Go.RowKit Go.Proofs.YtepfgckaapmeoaaDoorW.PrintWords Go.Proofs.YtepfgckaapmeoaaDoorW.PrintLast Go.Proofs.YtepfgckaapmeoaaDoorW.PrintMore Go.Proofs.YtepfgckaapmeoaaDoor.PRef
set_option linter.unusedVariables false

theorem rd37 (l : List S37) (k : Nat) (h : k < l.length) : rd_T37 l (k : Int) = l[k] := by
  unfold rd_T37
  rw [Int.toNat_natCast, List.getD_eq_getElem?_getD, List.getElem?_eq_getElem h]; rfl
theorem rd36 (l : List S36) (k : Nat) (h : k < l.length) : rd_T36 l (k : Int) = l[k] := by
  unfold rd_T36
  rw [Int.toNat_natCast, List.getD_eq_getElem?_getD, List.getElem?_eq_getElem h]; rfl
theorem back_go (l : List S36) (hl : l.length ≤ 1000000) : ∀ (d i k : Nat), i + d = l.length → d < k → vestrylaw09_back.l0 k l ((l.take i).map c37) (i : Int) = some (l.map c37)
  | 0, i, k, h, hk => by
    obtain ⟨k, rfl⟩ : ∃ q, k = q + 1 := ⟨k - 1, by omega⟩
    simp only [vestrylaw09_back.l0]
    rw [if_neg (by omega), List.take_of_length_le (by omega)]
  | d + 1, i, k, h, hk => by
    obtain ⟨k, rfl⟩ : ∃ q, k = q + 1 := ⟨k - 1, by omega⟩
    have ih := back_go l hl d (i + 1) k (by omega) (by omega)
    simp only [vestrylaw09_back.l0]
    rw [if_pos (by omega), if_pos (by omega), if_pos (by rw [List.length_map, List.length_take]; omega), wrap_ok _ (by omega)]
    rw [List.take_succ_eq_append_getElem (by omega : i < l.length), List.map_append, ← rd36 l i (by omega)] at ih
    exact ih
theorem refBack (l : List S36) (hl : l.length ≤ 1000000) : ∃ k, vestrylaw09_back.f k l = some (l.map c37) := by
  refine ⟨l.length + 1, ?_⟩
  have h := back_go l hl l.length 0 (l.length + 1) (by omega) (by omega)
  exact h
/-- What of a reference's token counts. -/
def keyR (t : S37) : Int × List UInt8 := (t.f0, t.f1.data.toList)
def sameR (a b : List S37) : Bool := decide (a.map keyR = b.map keyR)
theorem same_go (a b : List S37) (hl : a.length = b.length) (ha : a.length ≤ 1000000) : ∀ (d i k : Nat), i + d = a.length → d < k → vestryref09_Same.l0 k a b (i : Int) = some (decide ((a.drop i).map keyR = (b.drop i).map keyR))
  | 0, i, k, h, hk => by
    obtain ⟨k, rfl⟩ : ∃ q, k = q + 1 := ⟨k - 1, by omega⟩
    simp only [vestryref09_Same.l0]
    rw [if_neg (by omega), List.drop_of_length_le (by omega), List.drop_of_length_le (by omega)]
    rfl
  | d + 1, i, k, h, hk => by
    obtain ⟨k, rfl⟩ : ∃ q, k = q + 1 := ⟨k - 1, by omega⟩
    have ih := same_go a b hl ha d (i + 1) k (by omega) (by omega)
    simp only [vestryref09_Same.l0]
    rw [if_pos (by omega), if_pos (by omega), if_pos (by omega), rd37 a i (by omega), rd37 b i (by omega)]
    rw [List.drop_eq_getElem_cons (by omega : i < a.length), List.drop_eq_getElem_cons (by omega : i < b.length)]
    simp only [List.map_cons]
    by_cases h0 : a[i].f0 = b[i].f0
    · rw [if_pos h0]
      by_cases h1 : (a[i].f1).toList = (b[i].f1).toList
      · rw [if_pos h1, wrap_ok _ (by omega)]
        have e : keyR a[i] = keyR b[i] := by
          unfold keyR; rw [h0, ← ByteArray.toList_eq, ← ByteArray.toList_eq, h1]
        rw [e]
        refine ih.trans ?_
        congr 1
        rw [Bool.eq_iff_iff, decide_eq_true_iff, decide_eq_true_iff]
        exact ⟨fun h => by rw [h], fun h => (List.cons.inj h).2⟩
      · rw [if_neg h1]
        congr 1
        symm
        refine decide_eq_false fun h => h1 ?_
        have := (Prod.mk.inj (List.cons.inj h).1).2
        rw [ByteArray.toList_eq, ByteArray.toList_eq, this]
    · rw [if_neg h0]
      congr 1
      symm
      exact decide_eq_false fun h => h0 (Prod.mk.inj (List.cons.inj h).1).1
theorem refSame (a b : List S37) (ha : a.length ≤ 1000000) : ∃ k, vestryref09_Same.f k a b = some (sameR a b) := by
  refine ⟨a.length + 1, ?_⟩
  unfold vestryref09_Same.f
  by_cases hl : a.length = b.length
  · rw [if_pos (by omega)]
    exact same_go a b hl ha a.length 0 _ (by omega) (by omega)
  · rw [if_neg (by omega)]
    congr 1
    symm
    refine decide_eq_false fun h => hl ?_
    have := congrArg List.length h
    simpa using this
/-- The texts that a reference's Join joins. -/
def textsR (l : List S37) : List (List UInt8) := (l.filter fun t => decide (t.f0 ≠ 3)).map fun t => t.f1.data.toList
def joinR (l : List S37) : List UInt8 := Lib.join (textsR l) [32]
theorem join_snoc (x : List UInt8) : ∀ l : List (List UInt8), l ≠ [] → Lib.join (l ++ [x]) [32] = Lib.join l [32] ++ 32 :: x
  | [], h => absurd rfl h
  | [a], _ => by simp [Lib.join]
  | a :: b :: l, _ => by
    have ih := join_snoc x (b :: l) (by simp)
    have e1 : ∀ (b : List UInt8) (m : List (List UInt8)), Lib.join (a :: b :: m) [32] = a ++ [32] ++ Lib.join (b :: m) [32] := fun b m => by simp [Lib.join]
    rw [List.cons_append, List.cons_append, e1, ← List.cons_append, ih, e1]; simp
theorem textsR_take (l : List S37) (i : Nat) (h : i < l.length) : textsR (l.take (i + 1)) = if l[i].f0 = 3 then textsR (l.take i) else textsR (l.take i) ++ [l[i].f1.data.toList] := by
  rw [List.take_succ_eq_append_getElem h]
  unfold textsR
  rw [List.filter_append, List.map_append]
  by_cases h3 : l[i].f0 = 3
  · rw [if_pos h3]; simp [h3]
  · rw [if_neg h3]; simp [h3]
theorem join_take_le (l : List S37) (i : Nat) (h : i < l.length) : (joinR (l.take i)).length ≤ (joinR (l.take (i + 1))).length ∧ (¬ l[i].f0 = 3 → (joinR (l.take (i + 1))) = if textsR (l.take i) = [] then l[i].f1.data.toList else joinR (l.take i) ++ 32 :: l[i].f1.data.toList) := by
  unfold joinR
  rw [textsR_take l i h]
  by_cases h3 : l[i].f0 = 3
  · rw [if_pos h3]; exact ⟨Nat.le_refl _, fun h => absurd h3 h⟩
  · rw [if_neg h3]
    by_cases h0 : textsR (l.take i) = []
    · rw [if_pos h0, h0]; exact ⟨Nat.zero_le _, fun _ => by simp [Lib.join]⟩
    · rw [if_neg h0, join_snoc _ _ h0]
      exact ⟨by simp, fun _ => rfl⟩
theorem join_mono (l : List S37) : ∀ (d i : Nat), i + d = l.length → (joinR (l.take i)).length ≤ (joinR l).length
  | 0, i, h => by rw [List.take_of_length_le (by omega)]; exact Nat.le_refl _
  | d + 1, i, h => Nat.le_trans (join_take_le l i (by omega)).1 (join_mono l d (i + 1) (by omega))
theorem ba_len (s : ByteArray) : s.data.toList.length = s.size := Array.length_toList
theorem join_go (l : List S37) (hl : l.length ≤ 1000000) (hj : (joinR l).length ≤ 140737488355328) : ∀ (d i k : Nat) (x : ByteArray), i + d = l.length → d < k → x.data.toList = joinR (l.take i) →
    ∃ y : ByteArray, vestryref09_Join.l0 k l x (decide (textsR (l.take i) = [])) (i : Int) = some y ∧ y.data.toList = joinR l
  | 0, i, k, x, h, hk, hx => by
    obtain ⟨k, rfl⟩ : ∃ q, k = q + 1 := ⟨k - 1, by omega⟩
    simp only [vestryref09_Join.l0]
    rw [if_neg (by omega)]
    rw [List.take_of_length_le (by omega)] at hx
    exact ⟨x, rfl, hx⟩
  | d + 1, i, k, x, h, hk, hx => by
    obtain ⟨k, rfl⟩ : ∃ q, k = q + 1 := ⟨k - 1, by omega⟩
    have hi : i < l.length := by omega
    have ih := fun x => join_go l hl hj d (i + 1) k x (by omega) (by omega)
    obtain ⟨m1, m2⟩ := join_take_le l i hi
    have m3 := join_mono l d (i + 1) (by omega)
    rw [textsR_take l i hi] at ih
    simp only [vestryref09_Join.l0]
    rw [if_pos (by omega), if_pos (by omega), rd37 l i hi, wrap_ok _ (by omega)]
    have lx := congrArg List.length hx
    rw [ba_len] at lx
    by_cases h3 : l[i].f0 = 3
    · rw [if_pos h3]
      rw [if_pos h3] at ih
      refine ih x ?_
      rw [hx]; unfold joinR; rw [textsR_take l i hi, if_pos h3]
    · rw [if_neg h3]
      rw [if_neg h3] at ih
      have e := m2 h3
      have e0 : decide (textsR (l.take i) ++ [l[i].f1.data.toList] = []) = false := decide_eq_false (by simp)
      rw [e0] at ih
      have le := congrArg List.length e
      have lt := ba_len l[i].f1
      by_cases h0 : textsR (l.take i) = []
      · rw [if_pos h0] at e le
        rw [decide_eq_true h0, if_pos rfl]
        have hx0 : x.data.toList = [] := by rw [hx]; unfold joinR; rw [h0]; rfl
        have lx0 := congrArg List.length hx0
        rw [ba_len] at lx0
        have z0 : ([] : List UInt8).length = 0 := rfl
        rw [if_pos (by omega)]
        refine ih _ ?_
        rw [e, ByteArray.data_append, Array.toList_append, hx0]
        rfl
      · rw [if_neg h0] at e le
        rw [decide_eq_false h0, if_neg (by simp)]
        rw [List.length_append, List.length_cons] at le
        have s1 : (x ++ (⟨#[32]⟩ : ByteArray)).size = x.size + 1 := by rw [ByteArray.size_append]; rfl
        rw [if_pos (by omega), if_pos (by omega)]
        refine ih _ ?_
        rw [e, ByteArray.data_append, ByteArray.data_append, Array.toList_append, Array.toList_append, hx]
        simp
theorem refJoin (l : List S37) (hl : l.length ≤ 1000000) (hj : (joinR l).length ≤ 140737488355328) : ∃ k, vestryref09_Join.f k l = some ⟨(joinR l).toArray⟩ := by
  obtain ⟨y, h1, h2⟩ := join_go l hl hj l.length 0 (l.length + 1) ⟨#[]⟩ (by omega) (by omega) rfl
  refine ⟨l.length + 1, ?_⟩
  have e : y = ⟨(joinR l).toArray⟩ := WideShapes.bytes_inj (by rw [h2])
  rw [← e]
  exact h1
/-- The reference's tokens of the implementation's have the same keys and texts. -/
theorem keyR_c37 (l : List S36) : (l.map c37).map keyR = l.map keyT := by
  rw [List.map_map]; rfl
theorem sameR_c37 (a b : List S36) : sameR (a.map c37) (b.map c37) = sameL a b := by
  unfold sameR sameL; rw [keyR_c37, keyR_c37]
theorem joinR_c37 (l : List S36) : joinR (l.map c37) = joinL l := by
  unfold joinR joinL textsR textsOf
  congr 1
  rw [List.filter_map, List.map_map, List.map_map]
  rfl
theorem sameR_refl (l : List S37) : sameR l l = true := decide_eq_true rfl
end Go.Proofs.YtepfgckaapmeoaaDoor
