/-
  The contracts of package name's has, Reserved and Is: what they answer is said by plain functions on lists of bytes. Condition: the package-level variable name.reserved reads as its initialiser laid it.
-/
import Derived.Test.YtepfgckaapmeoaaDoorShelf
import Derived.WalkKit
import Derived.Lib.Hide
import Derived.Below
import Derived.IntWalk
import Derived.Lib.IndexLaws
namespace Go.Proofs.YtepfgckaapmeoaaDoor
open Go.RowKit

/-- All bytes of a text are in a set. -/
def hasB (st tx : List UInt8) : Bool := tx.all fun c => decide (c ∈ st)
theorem hasB_nil (st : List UInt8) : hasB st [] = true := rfl
theorem hasB_snoc (st : List UInt8) (l : List UInt8) (c : UInt8) : hasB st (l ++ [c]) = (hasB st l && decide (c ∈ st)) := by simp [hasB]
theorem take_snoc (s : ByteArray) (k : Nat) (h : k < s.size) : s.data.toList.take (k + 1) = s.data.toList.take k ++ [s[k]] := by
  rw [List.take_succ_eq_append_getElem (by simpa using h)]; rfl
theorem indexByte_mem (l : List UInt8) (c : UInt8) : 0 ≤ Lib.indexByte l c → c ∈ l := by
  intro h
  obtain ⟨o, ho⟩ : ∃ o : Nat, Lib.indexByte l c = o := ⟨(Lib.indexByte l c).toNat, by omega⟩
  exact List.mem_of_getElem? (Lib.indexByte_some ho).1
theorem indexByte_not (l : List UInt8) (c : UInt8) : Lib.indexByte l c < 0 → c ∉ l := by
  intro h hm
  have := Lib.indexByte_ge l c
  obtain ⟨k, hk⟩ := List.getElem?_of_mem hm
  exact Lib.indexByte_none (by omega) k hk
theorem hasB_step {st : List UInt8} {s : ByteArray} {k : Nat} (h : k < s.size) (hb : hasB st (s.data.toList.take k) = true) (hm : 0 ≤ Lib.indexByte st s[k]) : hasB st (s.data.toList.take (k + 1)) = true := by
  rw [take_snoc s k h, hasB_snoc, hb]; simpa using indexByte_mem _ _ hm
theorem hasB_stop {st : List UInt8} {s : ByteArray} {k : Nat} (h : k < s.size) (hm : Lib.indexByte st s[k] < 0) : hasB st s.data.toList = false := by
  have hn := indexByte_not _ _ hm
  rw [Bool.eq_false_iff]
  intro hb
  simp only [hasB, List.all_eq_true, decide_eq_true_eq] at hb
  exact hn (hb _ (by have : s[k] = s.data.toList[k]'(by simpa using h) := rfl
                     rw [this]; exact List.getElem_mem _))
theorem IndexByte_ (s : ByteArray) (c : Int) (w : World) : Calls Tryd.prog 23 #[.string s, .int .u8 c] w fun e w' => e = .returned (.int .i64 (Lib.indexByte s.data.toList c.toNat.toUInt8)) ∧ w = w' :=
  (Tryd.strings_IndexByte s c w).mono fun _ _ ⟨h1, h2⟩ => ⟨h1, h2.symm⟩
theorem HasPrefix_ (s p : ByteArray) (w : World) : Calls Tryd.prog 24 #[.string s, .string p] w fun e w' => e = .returned (.bool (Lib.hasPrefix s.data.toList p.data.toList)) ∧ w = w' :=
  (Tryd.strings_HasPrefix s p w).mono fun _ _ ⟨h1, h2⟩ => ⟨h1, h2.symm⟩
theorem ret_bool {a b : Bool} (h : a = b) : Ending.returned (.bool a) = .returned (.bool b) := by rw [h]

set_option maxHeartbeats 1000000 in
theorem has_any (st tx : ByteArray) (w : World) (hs : tx.size ≤ 140737488351232) :
    Calls Tryd.prog 40 #[.string st, .string tx] w fun e w' => e = .returned (.bool (hasB st.data.toList tx.data.toList)) ∧ w = w' := by
  go_enter Tryd.func40, Tryd.ntmps40
  go_wp2_with fail
  go_loop [5, 8] (fun _ n => ∃ k : Nat, k ≤ tx.size ∧ n = .int .i64 k ∧ hasB st.data.toList (tx.data.toList.take k) = true) (fun _ n => tx.size - (intOf n).toNat)
  case atStart => exact ⟨0, Nat.zero_le _, rfl, rfl⟩
  case round =>
    obtain ⟨k, hk, rfl, hb⟩ := hrel
    have hB := Lib.hid hb
    clear hb
    by_cases hlt : k < tx.size
    · go_wp2_with (go_at_call 23; refine (Tryd.strings_IndexByte _ _ _).mono ?_; rintro e w' ⟨rfl, rfl⟩)
      · have hm : Lib.indexByte st.data.toList tx[k] < 0 := by assumption
        go_ret
        exact ⟨ret_bool (hasB_stop hlt hm).symm, rfl⟩
      · have hm : 0 ≤ Lib.indexByte st.data.toList tx[k] := by assumption
        go_round
        case rel => exact ⟨k + 1, by omega, by go_num, hasB_step hlt hB.out hm⟩
        case measure => simp [intOf]; omega
    · go_wp2
      go_ret
      have hb := hB.out
      rw [List.take_of_length_le (by simp; omega)] at hb
      exact ⟨ret_bool hb.symm, rfl⟩

/-! ### reserved words -/
def resS : List ByteArray := [⟨#[100, 101, 102, 105, 110, 105, 116, 105, 111, 110]⟩, ⟨#[114, 101, 108, 97, 116, 105, 111, 110]⟩, ⟨#[112, 101, 114, 109, 105, 115, 115, 105, 111, 110]⟩]
/-- What name.reserved holds. -/
def LaidRes (w : World) : Prop := ∀ j, j < 3 → w.cell? ⟨0, 0 + j, none⟩ = some (.string (resS.getD j ByteArray.empty))
theorem LaidRes.below {w w' : World} (h : LaidRes w) (hb : Below w.heap.size w w') : LaidRes w' := fun j hj =>
  (hb.cell (World.block_lt_of_cell? w _ (h j hj))).trans (h j hj)
/-- Is a word reserved? -/
def resB (l : List UInt8) : Bool := l == [100, 101, 102, 105, 110, 105, 116, 105, 111, 110] || (l == [114, 101, 108, 97, 116, 105, 111, 110] || l == [112, 101, 114, 109, 105, 115, 115, 105, 111, 110])
theorem ba_eq (s : ByteArray) (l : Array UInt8) : s = ⟨l⟩ ↔ s.data.toList = l.toList := by
  obtain ⟨d⟩ := s
  constructor
  · intro h; cases h; rfl
  · intro h; simp at h; rw [h]
theorem containsS_res (s : ByteArray) : Lib.containsS (resS.take 3) s = resB s.data.toList := by
  rw [Bool.eq_iff_iff, Lib.containsS_iff]
  simp [resS, resB, ba_eq]

set_option maxHeartbeats 1000000 in
theorem Reserved_any (s : ByteArray) (w : World) (hL : LaidRes w) :
    Calls Tryd.prog 27 #[.string s] w fun e w' => e = .returned (.bool (resB s.data.toList)) ∧ w = w' := by
  have c := Tryd.slices_Contains_string 0 0 3 3 resS s w (by decide) (by decide) hL
  rw [containsS_res] at c
  go_enter Tryd.func27, Tryd.ntmps27
  go_wp2_with (go_at_call 41; refine c.mono ?_; rintro e w' ⟨rfl, rfl⟩)
  go_ret
  exact ⟨rfl, rfl⟩

/-! ### names -/
def smallL : List UInt8 := [97, 98, 99, 100, 101, 102, 103, 104, 105, 106, 107, 108, 109, 110, 111, 112, 113, 114, 115, 116, 117, 118, 119, 120, 121, 122]
def nameL : List UInt8 := smallL ++ [48, 49, 50, 51, 52, 53, 54, 55, 56, 57, 95]
/-- Is a string a name? -/
def isB (l : List UInt8) : Bool := !l.isEmpty && (decide (l.length ≤ 64) && (hasB smallL (l.take 1) && (hasB nameL l && !resB l)))

set_option maxHeartbeats 2000000 in
theorem Is_any (s : ByteArray) (w : World) (hs : s.size ≤ 140737488351232) (hL : LaidRes w) :
    Calls Tryd.prog 26 #[.string s] w fun e w' => e = .returned (.bool (isB s.data.toList)) ∧ w = w' := by
  have h1 : ¬ s.toList = [] → (1 : Int) ≤ s.size := by
    rw [ByteArray.toList_eq]; intro h; have : s.data.toList.length ≠ 0 := fun h0 => h (List.length_eq_zero_iff.1 h0)
    rw [Array.length_toList] at this; have h2 : s.data.size = s.size := rfl; omega
  by_cases he : s.toList = []
  · go_enter Tryd.func26, Tryd.ntmps26
    go_wp2
    go_ret
    exact ⟨ret_bool (by rw [ByteArray.toList_eq] at he; simp [isB, he]), rfl⟩
  have h1' := h1 he
  clear h1
  go_enter Tryd.func26, Tryd.ntmps26
  go_wp2_with (first | (go_at_call 40; refine (has_any _ _ _ (by first | exact hs | (simp; omega))).mono ?_; rintro e w' ⟨rfl, rfl⟩) | (go_at_call 27; refine (Reserved_any _ _ hL).mono ?_; rintro e w' ⟨rfl, rfl⟩))
  all_goals go_ret
  all_goals refine ⟨ret_bool ?_, rfl⟩
  all_goals
    have hl : s.data.toList.length = s.size := by rw [Array.length_toList]; rfl
    rw [ByteArray.toList_eq] at he
    have he2 : s.data.toList.isEmpty = false := by simpa using he
    simp only [isB, smallL, nameL, List.cons_append, List.nil_append, hl, ByteArray.toList_eq, he2]
    by_cases h64 : s.size ≤ 64
    all_goals first | omega | simp [*]
end Go.Proofs.YtepfgckaapmeoaaDoor
