/-
  What the reference's Line, Same and Join and the law's back compute, as printed, in plain words.
-/
import Derived.Test.YtepfgckaapmeoaaDoorPRefx3
import Derived.Test.YtepfgckaapmeoaaDoorLexTok
import Derived.Test.YtepfgckaapmeoaaDoorLexJoin
import Derived.Test.YtepfgckaapmeoaaDoorLexSame
import Derived.Test.YtepfgckaapmeoaaDoorLexLine
namespace Go.Proofs.YtepfgckaapmeoaaDoor
open Go.RowKit Go.Proofs.YtepfgckaapmeoaaDoorW.PrintWords Go.Proofs.YtepfgckaapmeoaaDoorW.PrintLast Go.Proofs.YtepfgckaapmeoaaDoorW.PrintMore Go.Proofs.YtepfgckaapmeoaaDoor.PRef
set_option linter.unusedVariables false

theorem wrap_ok (i : Int) (h : -9223372036854775808 ≤ i ∧ i ≤ 9223372036854775807) : wrap64 i = i := by unfold wrap64; omega
theorem bt_get (s : ByteArray) (i : Nat) (h : i < s.size) : bt s (i : Int) = ((s[i]).toNat : Int) := by
  have := bt_at s (i : Int) (by rw [Int.toNat_natCast]; exact h)
  rw [← this]
  simp only [Int.toNat_natCast]
theorem ext0 (s : ByteArray) (k : Nat) : (s.extract 0 k).data.toList = s.data.toList.take k := by
  rw [ByteArray.data_extract, Array.toList_extract, List.extract_eq_take_drop]
  simp
theorem lineN_zero (s : ByteArray) : lineN s 0 = 0 := by rw [lineN_def, ext0]; rfl
theorem lineN_succ (s : ByteArray) (i : Nat) (h : i < s.size) : lineN s (i + 1) = lineN s i + (if bt s i = 10 then 1 else 0) := by
  rw [lineN_def, lineN_def, ext0, ext0, take_snoc s i h, bt_get s i h]
  unfold Lib.countByte
  rw [List.count_append]
  congr 1
  by_cases h1 : s[i] = 10
  · rw [h1]; rfl
  · have h2 : ¬ ((s[i].toNat : Int) = 10) := fun h3 => h1 (by apply UInt8.toNat_inj.1; have : (10 : UInt8).toNat = 10 := rfl; omega)
    rw [if_neg h2, List.count_singleton, if_neg (by simpa using h1)]
theorem lastIdx_same (s : ByteArray) (k : Nat) (hk : k ≤ s.size) : ∀ j, j ≤ k → Lib.lastIdx (s.extract 0 k) 10 j = Lib.lastIdx s 10 j
  | 0, _ => rfl
  | j + 1, hj => by
    unfold Lib.lastIdx
    have e : (s.extract 0 k).data[j]! = s.data[j]! := by
      have h1 : j < (s.extract 0 k).data.size := by
        have : (s.extract 0 k).data.size = (s.extract 0 k).size := rfl
        rw [this, ext_size0 s k hk]; omega
      have h2 : j < s.data.size := by have : s.data.size = s.size := rfl; omega
      rw [getElem!_pos (s.extract 0 k).data j h1, getElem!_pos s.data j h2]
      simp
    rw [e, lastIdx_same s k hk j (by omega)]
theorem lastN_eq (s : ByteArray) (k : Nat) (hk : k ≤ s.size) : lastN s k = Lib.lastIdx s 10 k := by
  rw [lastN_def, Lib.lastIndexByte, ext_size0 s k hk]
  exact lastIdx_same s k hk k (Nat.le_refl _)
theorem lastN_zero (s : ByteArray) : lastN s 0 = -1 := by rw [lastN_eq s 0 (Nat.zero_le _)]; rfl
theorem lastN_succ (s : ByteArray) (i : Nat) (h : i < s.size) : lastN s (i + 1) = if bt s i = 10 then (i : Int) else lastN s i := by
  rw [lastN_eq s (i + 1) h, lastN_eq s i (by omega), Lib.lastIdx, bt_get s i h]
  have e : s.data[i]! = s[i] := getElem!_pos s.data i h
  rw [e]
theorem line_go (s : ByteArray) (m : Nat) (hm : m ≤ s.size) (hs : s.size ≤ 1000000) : ∀ (d k i : Nat), i + d = m → d < k → vestryref09_Line.l0 k s (m : Int) ((lineN s i : Int) + 1) ((i : Int) - lastN s i) (i : Int) = some ((lineN s m : Int) + 1, (m : Int) - lastN s m)
  | 0, k, i, h, hk => by
    obtain ⟨k, rfl⟩ : ∃ q, k = q + 1 := ⟨k - 1, by omega⟩
    obtain rfl : i = m := by omega
    simp only [vestryref09_Line.l0]
    rw [if_neg (by omega)]
  | d + 1, k, i, h, hk => by
    obtain ⟨k, rfl⟩ : ∃ q, k = q + 1 := ⟨k - 1, by omega⟩
    have ih := line_go s m hm hs d k (i + 1) (by omega) (by omega)
    have hi : i < s.size := by omega
    have b1 := lineN_le s i (by omega)
    have b2 := lastN_bd s i (by omega)
    simp only [vestryref09_Line.l0]
    rw [if_pos (by omega), if_pos (by omega), if_pos (by omega)]
    rw [lineN_succ s i hi, lastN_succ s i hi] at ih
    by_cases hb : bt s i = 10
    · rw [if_pos hb] at ih ⊢
      rw [if_pos hb] at ih
      rw [wrap_ok _ (by omega), wrap_ok _ (by omega), ← ih]
      congr 1 <;> omega
    · rw [if_neg hb] at ih ⊢
      rw [if_neg hb] at ih
      rw [wrap_ok _ (by omega), wrap_ok _ (by omega), ← ih]
      congr 1 <;> omega
theorem refLine_in (s : ByteArray) (m : Nat) (hm : m ≤ s.size) (hs : s.size ≤ 1000000) : vestryref09_Line.f (m + 3) s (m : Int) = some ((lineN s m : Int) + 1, (m : Int) - lastN s m) := by
  unfold vestryref09_Line.f
  rw [if_neg (by omega)]
  have h1 : decide ((m : Int) > (s.size : Int)) = false := decide_eq_false (by omega)
  rw [h1]
  simp only [vestryref09_Line.j0]
  rw [if_neg (by simp)]
  have h := line_go s m hm hs m (m + 2) 0 (by omega) (by omega)
  rw [lineN_zero, lastN_zero] at h
  exact h
theorem refLine_out (s : ByteArray) (m : Int) (h : m < 0 ∨ (s.size : Int) < m) : vestryref09_Line.f 1 s m = some (0, 0) := by
  unfold vestryref09_Line.f
  by_cases h1 : m < 0
  · rw [if_pos h1]; simp [vestryref09_Line.j0]
  · rw [if_neg h1, decide_eq_true (by omega : m > (s.size : Int))]; simp [vestryref09_Line.j0]
end Go.Proofs.YtepfgckaapmeoaaDoor
