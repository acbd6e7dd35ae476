/-
  The tokens of a text, as a plain function: what package lex's Tokens computes.
-/
import Derived.Test.YtepfgckaapmeoaaDoorLexAdd
import Derived.Test.YtepfgckaapmeoaaDoorErrAs
namespace Go.Proofs.YtepfgckaapmeoaaDoor
open Go.RowKit Go.Proofs.YtepfgckaapmeoaaDoorW.PrintWords Go.Proofs.YtepfgckaapmeoaaDoorW.PrintLast Go.Proofs.YtepfgckaapmeoaaDoorW.PrintMore Go.Proofs.YtepfgckaapmeoaaDoor.PRef

def atB (s : ByteArray) (i : Nat) : UInt8 := s.data.toList.getD i 0
theorem atB_eq (s : ByteArray) (i : Nat) (h : i < s.size) : s[i] = atB s i := by
  unfold atB
  rw [List.getD_eq_getElem?_getD, List.getElem?_eq_getElem (by simpa using h)]
  rfl
def restAt (s : ByteArray) (i : Nat) : ByteArray := s.extract i s.size
theorem wordAt_ex (s : ByteArray) (i : Nat) : ∃ t : ByteArray, t = (s.extract i s.size).extract 0 (runN wordB (s.extract i s.size)) := ⟨_, rfl⟩
noncomputable def wordAt (s : ByteArray) (i : Nat) : ByteArray := (wordAt_ex s i).choose
theorem wordAt_def (s : ByteArray) (i : Nat) : wordAt s i = (s.extract i s.size).extract 0 (runN wordB (s.extract i s.size)) := (wordAt_ex s i).choose_spec
theorem commAt_ex (s : ByteArray) (i : Nat) : ∃ t : ByteArray, t = (s.extract i s.size).extract 0 (runN notNL (s.extract i s.size)) := ⟨_, rfl⟩
noncomputable def commAt (s : ByteArray) (i : Nat) : ByteArray := (commAt_ex s i).choose
theorem commAt_def (s : ByteArray) (i : Nat) : commAt s i = (s.extract i s.size).extract 0 (runN notNL (s.extract i s.size)) := (commAt_ex s i).choose_spec
theorem pre1_ex (s : ByteArray) (i : Nat) : ∃ t : Bool, t = Lib.hasPrefix (s.extract i s.size).data.toList [47, 47] := ⟨_, rfl⟩
noncomputable def pre1 (s : ByteArray) (i : Nat) : Bool := (pre1_ex s i).choose
theorem pre1_def (s : ByteArray) (i : Nat) : pre1 s i = Lib.hasPrefix (s.extract i s.size).data.toList [47, 47] := (pre1_ex s i).choose_spec
theorem pre2_ex (s : ByteArray) (i : Nat) : ∃ t : Bool, t = Lib.hasPrefix (s.extract i s.size).data.toList [45, 62] := ⟨_, rfl⟩
noncomputable def pre2 (s : ByteArray) (i : Nat) : Bool := (pre2_ex s i).choose
theorem pre2_def (s : ByteArray) (i : Nat) : pre2 s i = Lib.hasPrefix (s.extract i s.size).data.toList [45, 62] := (pre2_ex s i).choose_spec
theorem oneAt_ex (s : ByteArray) (i : Nat) : ∃ t : ByteArray, t = (s.extract i s.size).extract 0 1 := ⟨_, rfl⟩
noncomputable def oneAt (s : ByteArray) (i : Nat) : ByteArray := (oneAt_ex s i).choose
theorem oneAt_def (s : ByteArray) (i : Nat) : oneAt s i = (s.extract i s.size).extract 0 1 := (oneAt_ex s i).choose_spec
def isSp (c : UInt8) : Bool := decide (c ∈ ([32, 9, 10, 13] : List UInt8))
def isSg (c : UInt8) : Bool := decide (c ∈ ([123, 125, 40, 41, 58, 59, 61, 124, 35, 43, 38, 45] : List UInt8))
/-- Is the word a name, or reserved? -/
noncomputable def okWord (s : ByteArray) (i : Nat) : Bool := isB (wordAt s i).data.toList || resB (wordAt s i).data.toList
inductive Step where
  | skip : Nat → Step
  | tok : Int → ByteArray → Step
  | bad : Int → Step
def wordStep (b : Bool) (t : ByteArray) : Step := if b = true then .tok 1 t else .bad 5
def arrow : ByteArray := ⟨#[45, 62]⟩
/-- What stands at an offset. -/
noncomputable def tokStep (s : ByteArray) (i : Nat) : Step :=
  if isSp (atB s i) = true then .skip 1
  else if pre1 s i = true then .skip (commAt s i).size
  else if wordB (atB s i) = true then wordStep (okWord s i) (wordAt s i)
  else if pre2 s i = true then .tok 2 arrow
  else if isSg (atB s i) = true then .tok 2 (oneAt s i)
  else .bad 6
noncomputable def tokGo (s : ByteArray) : Nat → Nat → List S36 → Option (List S36 × Er)
  | 0, _, _ => none
  | k + 1, i, acc => if i < s.size then
      match tokStep s i with
      | .skip n => tokGo s k (i + n) acc
      | .tok kd t => tokGo s k (i + t.size) (acc ++ [⟨kd, t, (i : Int)⟩])
      | .bad c => some ([], .fault c i)
    else some (acc ++ [⟨3, ⟨#[]⟩, (i : Int)⟩], .nil)
theorem extract_size (s : ByteArray) (i j : Nat) : (s.extract i j).size = min j s.size - i := by simp
theorem wordAt_size (s : ByteArray) (i : Nat) : (wordAt s i).size = runN wordB (s.extract i s.size) ∧ i + (wordAt s i).size ≤ max i s.size := by
  have h := runN_le wordB (s.extract i s.size)
  rw [wordAt_def]
  simp only [extract_size] at h ⊢
  omega
theorem commAt_size (s : ByteArray) (i : Nat) : (commAt s i).size = runN notNL (s.extract i s.size) ∧ i + (commAt s i).size ≤ max i s.size := by
  have h := runN_le notNL (s.extract i s.size)
  rw [commAt_def]
  simp only [extract_size] at h ⊢
  omega
theorem oneAt_size (s : ByteArray) (i : Nat) (h : i < s.size) : (oneAt s i).size = 1 := by
  rw [oneAt_def]
  rw [extract_size, extract_size]; omega
theorem pre_size {s : ByteArray} {i : Nat} {a b : UInt8} (h : Lib.hasPrefix (s.extract i s.size).data.toList [a, b] = true) : i + 2 ≤ s.size := by
  unfold Lib.hasPrefix at h
  have h1 := (List.isPrefixOf_iff_prefix.1 h).length_le
  have h2 : (s.extract i s.size).data.toList.length = (s.extract i s.size).size := Array.length_toList
  have h3 : [a, b].length = 2 := rfl
  rw [h2, extract_size, h3] at h1
  omega
theorem comm_two {s : ByteArray} {i : Nat} (h : pre1 s i = true) : 2 ≤ (commAt s i).size := by
  rw [(commAt_size s i).1]
  unfold runN
  rw [pre1_def] at h
  unfold Lib.hasPrefix at h
  obtain ⟨t, ht⟩ := List.isPrefixOf_iff_prefix.1 h
  rw [← ht]
  have e : ([47, 47] ++ t).takeWhile notNL = 47 :: 47 :: t.takeWhile notNL := by
    simp [notNL]
  rw [e]; simp
theorem word_pos {s : ByteArray} {i : Nat} (h : i < s.size) : 0 < (wordAt s i).size ↔ wordB (atB s i) = true := by
  rw [(wordAt_size s i).1]
  unfold runN
  have e : (s.extract i s.size).data.toList = s.data.toList.drop i := by
    rw [ByteArray.data_extract, Array.toList_extract, List.extract_eq_take_drop]
    exact List.take_of_length_le (by rw [List.length_drop, Array.length_toList]; exact Nat.le_refl _)
  have hl : s.data.toList.length = s.size := Array.length_toList
  have e2 : atB s i = s.data.toList[i]'(by omega) := by
    unfold atB; rw [List.getD_eq_getElem?_getD, List.getElem?_eq_getElem (by omega)]; rfl
  rw [e, List.drop_eq_getElem_cons (by omega), List.takeWhile_cons, e2]
  by_cases hw : wordB (s.data.toList[i]'(by omega)) = true
  · rw [if_pos hw]; exact ⟨fun _ => hw, fun _ => by simp⟩
  · rw [if_neg hw]; exact ⟨fun h0 => absurd h0 (by simp), fun h0 => absurd h0 hw⟩
/-- Each step goes on, and stays within the text. -/
inductive StepOk (s : ByteArray) (i : Nat) : Step → Prop where
  | skip {n : Nat} (h : 0 < n ∧ i + n ≤ s.size) : StepOk s i (.skip n)
  | tok {kd : Int} {t : ByteArray} (h : 0 < t.size ∧ i + t.size ≤ s.size) : StepOk s i (.tok kd t)
  | bad {c : Int} : StepOk s i (.bad c)
theorem ite_ok {α : Type} {P : α → Prop} {c : Prop} [Decidable c] {a b : α} (h1 : c → P a) (h2 : ¬ c → P b) : P (if c then a else b) := by
  by_cases h : c
  · rw [if_pos h]; exact h1 h
  · rw [if_neg h]; exact h2 h
theorem fit_max {i n m : Nat} (h : i < m) (h2 : i + n ≤ max i m) : i + n ≤ m := by omega
theorem word_fit {s : ByteArray} {i : Nat} (h : i < s.size) (hw : wordB (atB s i) = true) : 0 < (wordAt s i).size ∧ i + (wordAt s i).size ≤ s.size :=
  ⟨(word_pos h).2 hw, fit_max h (wordAt_size s i).2⟩
theorem stepOk_tok {s : ByteArray} {i : Nat} (kd : Int) {t : ByteArray} (h : 0 < t.size ∧ i + t.size ≤ s.size) : StepOk s i (.tok kd t) := .tok h
theorem stepOk_skip {s : ByteArray} {i n : Nat} (h : 0 < n ∧ i + n ≤ s.size) : StepOk s i (.skip n) := .skip h
theorem stepOk_bad (s : ByteArray) (i : Nat) (c : Int) : StepOk s i (.bad c) := .bad
theorem wordStep_ok {s : ByteArray} {i : Nat} (b : Bool) {t : ByteArray} (h : 0 < t.size ∧ i + t.size ≤ s.size) : StepOk s i (wordStep b t) := by
  cases b
  · exact stepOk_bad s i 5
  · exact stepOk_tok 1 h
theorem tokStep_ok (s : ByteArray) (i : Nat) (h : i < s.size) : StepOk s i (tokStep s i) := by
  unfold tokStep
  refine ite_ok (P := StepOk s i) (fun _ => ?_) (fun _ => ?_)
  · exact stepOk_skip ⟨by omega, h⟩
  refine ite_ok (P := StepOk s i) (fun hp => ?_) (fun _ => ?_)
  · have h1 := comm_two hp
    have h2 := (commAt_size s i).2
    exact stepOk_skip ⟨by omega, by omega⟩
  refine ite_ok (P := StepOk s i) (fun hw => ?_) (fun _ => ?_)
  · exact wordStep_ok _ (word_fit h hw)
  refine ite_ok (P := StepOk s i) (fun hp => ?_) (fun _ => ?_)
  · rw [pre2_def] at hp
    have := pre_size hp
    have ha : arrow.size = 2 := rfl
    exact stepOk_tok 2 ⟨by omega, by omega⟩
  refine ite_ok (P := StepOk s i) (fun _ => ?_) (fun _ => ?_)
  · have := oneAt_size s i h
    exact stepOk_tok 2 ⟨by omega, by omega⟩
  · exact stepOk_bad s i 6
theorem tokGo_skip {s : ByteArray} {k i n : Nat} {acc : List S36} (h : i < s.size) (e : tokStep s i = .skip n) : tokGo s (k + 1) i acc = tokGo s k (i + n) acc := by
  rw [tokGo, if_pos h, e]
theorem tokGo_tok {s : ByteArray} {k i : Nat} {kd : Int} {t : ByteArray} {acc : List S36} (h : i < s.size) (e : tokStep s i = .tok kd t) : tokGo s (k + 1) i acc = tokGo s k (i + t.size) (acc ++ [⟨kd, t, (i : Int)⟩]) := by
  rw [tokGo, if_pos h, e]
theorem tokGo_bad {s : ByteArray} {k i : Nat} {c : Int} {acc : List S36} (h : i < s.size) (e : tokStep s i = .bad c) : tokGo s (k + 1) i acc = some ([], .fault c i) := by
  rw [tokGo, if_pos h, e]
theorem tokGo_end {s : ByteArray} {k i : Nat} {acc : List S36} (h : ¬ i < s.size) : tokGo s (k + 1) i acc = some (acc ++ [⟨3, ⟨#[]⟩, (i : Int)⟩], .nil) := by
  rw [tokGo, if_neg h]
/-- With enough rounds there is an answer. -/
theorem tokGo_some (s : ByteArray) : ∀ (k i : Nat) (acc : List S36), s.size < k + i → i ≤ s.size → ∃ r, tokGo s k i acc = some r
  | 0, i, acc, h, h2 => by omega
  | k + 1, i, acc, h, h2 => by
    by_cases hi : i < s.size
    · have ok := tokStep_ok s i hi
      cases e : tokStep s i with
      | skip n => rw [tokGo_skip hi e]; rw [e] at ok; cases ok with | skip ok => exact tokGo_some s k _ _ (by have := ok.1; omega) ok.2
      | tok kd t => rw [tokGo_tok hi e]; rw [e] at ok; cases ok with | tok ok => exact tokGo_some s k _ _ (by have := ok.1; omega) ok.2
      | bad c => exact ⟨_, tokGo_bad hi e⟩
    · exact ⟨_, tokGo_end hi⟩
end Go.Proofs.YtepfgckaapmeoaaDoor
