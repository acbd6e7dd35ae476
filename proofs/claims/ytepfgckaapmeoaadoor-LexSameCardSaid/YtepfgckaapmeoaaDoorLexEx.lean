/-
  The plain function of tokens at the document's examples.
-/
import Derived.Test.YtepfgckaapmeoaaDoorLexTok
import Derived.Test.YtepfgckaapmeoaaDoorLexJoin
import Derived.Test.YtepfgckaapmeoaaDoorLexLine
namespace Go.Proofs.YtepfgckaapmeoaaDoor
open Go.RowKit Go.Proofs.YtepfgckaapmeoaaDoorW.PrintWords Go.Proofs.YtepfgckaapmeoaaDoorW.PrintLast Go.Proofs.YtepfgckaapmeoaaDoorW.PrintMore Go.Proofs.YtepfgckaapmeoaaDoor.PRef

/-- tokStep, to be computed. -/
def stepC (s : ByteArray) (i : Nat) : Step :=
  let r := s.extract i s.size
  let word := r.extract 0 (runN wordB r)
  if isSp (atB s i) = true then .skip 1
  else if Lib.hasPrefix r.data.toList [47, 47] = true then .skip (r.extract 0 (runN notNL r)).size
  else if wordB (atB s i) = true then wordStep (isB word.data.toList || resB word.data.toList) word
  else if Lib.hasPrefix r.data.toList [45, 62] = true then .tok 2 arrow
  else if isSg (atB s i) = true then .tok 2 (r.extract 0 1)
  else .bad 6
theorem stepC_eq (s : ByteArray) (i : Nat) : tokStep s i = stepC s i := by
  unfold tokStep stepC okWord
  rw [pre1_def, pre2_def, wordAt_def, commAt_def, oneAt_def]
def goC (s : ByteArray) : Nat → Nat → List S36 → Option (List S36 × Er)
  | 0, _, _ => none
  | k + 1, i, acc => if i < s.size then
      match stepC s i with
      | .skip n => goC s k (i + n) acc
      | .tok kd t => goC s k (i + t.size) (acc ++ [⟨kd, t, (i : Int)⟩])
      | .bad c => some ([], .fault c i)
    else some (acc ++ [⟨3, ⟨#[]⟩, (i : Int)⟩], .nil)
theorem goC_eq (s : ByteArray) : ∀ (k i : Nat) (acc : List S36), tokGo s k i acc = goC s k i acc
  | 0, _, _ => rfl
  | k + 1, i, acc => by
    rw [tokGo, goC, stepC_eq]
    by_cases h : i < s.size
    · rw [if_pos h, if_pos h]
      cases stepC s i with
      | skip n => exact goC_eq s k _ _
      | tok kd t => exact goC_eq s k _ _
      | bad c => rfl
    · rw [if_neg h, if_neg h]
def ex1 : List S36 := [⟨1, ⟨#[97]⟩, 0⟩, ⟨2, ⟨#[45, 62]⟩, 1⟩, ⟨1, ⟨#[98]⟩, 3⟩, ⟨3, ⟨#[]⟩, 9⟩]
theorem tok_ex1 : tokGo ⟨#[97, 45, 62, 98, 32, 47, 47, 32, 99]⟩ 10 0 [] = some (ex1, .nil) := by
  rw [goC_eq]; rfl
theorem tok_ex2 : tokGo ⟨#[97, 32, 65]⟩ 10 0 [] = some ([], .fault 5 2) := by
  rw [goC_eq]; rfl
theorem join_ex1 : joinL ex1 = [97, 32, 45, 62, 32, 98] := by rfl
theorem line_ex : lineN ⟨#[97, 10, 98, 99]⟩ 3 = 1 := by rw [lineN_def]; rfl
theorem last_ex : lastN ⟨#[97, 10, 98, 99]⟩ 3 = 1 := by rw [lastN_def]; rfl
end Go.Proofs.YtepfgckaapmeoaaDoor
