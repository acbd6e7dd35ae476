/-
  LexSame: for every two slices of the reference's tokens the law returns true, and the arguments read as they did. Conditions: the row's own (the listed package-level variables read as their initialisers laid them; the card ties that to the program's text).
-/
import Derived.Test.YtepfgckaapmeoaaDoorLaid
import Derived.Test.YtepfgckaapmeoaaDoorLexSames
import Derived.Test.YtepfgckaapmeoaaDoorLexOpen
import Derived.Test.YtepfgckaapmeoaaDoorTie
import Derived.Test.YtepfgckaapmeoaaDoorCards
import Derived.SizedLaws
import Derived.ShutString
import Derived.SevenTiedAt
namespace Go.Proofs.YtepfgckaapmeoaaDoor
open Go.ChangeShapes Go.WideShapes Go.ChangeAt Go.RowKit
open Go.ChangeMaps (open_string shut_string)
set_option linter.unusedVariables false

set_option maxRecDepth 100000 in
theorem same_of_lifted (os : Os) (started : os.Started) (H : Type) (enc : TypeId × Value → H) :
    ReturnsInHanded {} Tryd.checked os 5 .any (fun w args => (Rows.lexSameSpec.pre enc Tryd.prog Tryd.f5 [] false w args ∧ laidMetH Tryd.prog laid2 w) ∧ sizedMet enc Tryd.prog Tryd.f5 (OpenSpec.ofChange Rows.lexSameSpec) false w args)
      (Rows.lexSameSpec.post enc Tryd.prog Tryd.f5 false true false false) := by
  refine returnsInHanded_of_change_and (C := Tryd.checked) (X := fun w _ => laidMetH Tryd.prog laid2 w) (fun _ _ _ hh h => h.of_heap hh) own started (by kernel_rfl) Tryd.func5
    (ChangeSpec.witness_shaped (enc := enc) (C := Tryd.checked) (os := os) (X := fun w _ => laidMetH Tryd.prog laid2 w) false (World.doorLaid Tryd.prog 21 os) #[.slice none 0 0, .slice none 0 0] 8 rfl (World.shaped_of_RefB (by kernel_rfl) (by kernel_rfl)) (by kernel_rfl) (by kernel_rfl) (by kernel_rfl) (door_met os _)) ?_
  intro W base args ds gs before hval0 hW _ hsz0 hL _
  have hsz : (DataW.weightsEach Tryd.prog (Tryd.f5.params.toList ++ Rows.lexSameSpec.plain.varTypes Tryd.prog) (ds ++ gs)).all (· ≤ reachBytes) = true := hsz0
  have hval : ∀ (j : Nat) t v, Tryd.f5.params[j]? = some t → args[j]? = some v → Value.okWide Tryd.prog W .any base t v := hval0
  have hW' := hW
  obtain ⟨p, q, hA0, hV, rfl, hfz, hnd⟩ := hW
  have hA : DataW.TrodAll enc Tryd.prog W 0 (fun _ => true) true Tryd.f5.params.toList args.toList ds p := hA0
  rw [Tryd.params5] at hA hval hsz
  obtain ⟨v0, v1, d0, d1, p0, p1, rfl, rfl, rfl, h0, h1⟩ := trodAll_two hA
  obtain ⟨rfl, rfl⟩ := trodVars_none hV
  have hlt : ∀ x ∈ p0 ++ p1, x.block < W.heap.size := fun x hx => hW'.lt x (List.mem_append_left _ hx)
  obtain ⟨a0, len0, cap0, rfl⟩ := WideShapes.okWide_slice Tryd.underlying28 (hval 0 28 v0 rfl rfl)
  obtain ⟨xs0, rfl, hc0, hC0, hz0⟩ := open_toks hsz (j := 0) rfl rfl h0
  obtain ⟨a1, len1, cap1, rfl⟩ := WideShapes.okWide_slice Tryd.underlying28 (hval 1 28 v1 rfl rfl)
  obtain ⟨xs1, rfl, hc1, hC1, hz1⟩ := open_toks hsz (j := 1) rfl rfl h1
  obtain ⟨hE, hR⟩ := of_laid hL
  clear hA0 hval0 hsz0 hsz
  refine (LexSame_any a0 cap0 xs0 a1 cap1 xs1 W hC0 hC1 hc0 hc1 hz0 hz1 hE hR).mono fun e W' ⟨he, bel⟩ => ?_
  subst he
  exact ⟨_, rfl, _, _, _, [], _, [], hW', trodAll_mk1 (shut_bool Tryd.underlying4 _), trodAll_mk2 (Below.trod laidOut (by kernel_rfl) (of_decide_eq_true (by kernel_rfl)) h0 bel (fun x hx => hlt x (List.mem_append.2 (.inl hx)))) (Below.trod laidOut (by kernel_rfl) (of_decide_eq_true (by kernel_rfl)) h1 bel (fun x hx => hlt x (List.mem_append.2 (.inr hx)))), rfl, bel.frame _, fun h => by cases h⟩

theorem same_of_row : Rows.LexSameSaid :=
  OpenClaim.holds_of_wide 5 Tryd.f5 rfl rfl rfl rfl rfl rfl rfl ⟨rfl, rfl, rfl, rfl, rfl⟩ rfl rfl rfl rfl rfl (by kernel_rfl) Tryd.func5 (by kernel_rfl)
    (of_decide_eq_true (by kernel_rfl)) (by unfold Func.isWrapper; rw [if_neg (of_decide_eq_false (by kernel_rfl))]; exact ⟨rfl, rfl⟩)
    (fun os started H enc _ => same_of_lifted os started H enc)
theorem same_holds : Rows.LexSameCardSaid :=
  Claim7.holds_tied_plain_at .later [] [.handle, .widerDeep] true (true, "720c720ff14b088203cd2a0a0e05a7dd61272e7bc7c1d45e32c831347273f54a") true
    same_of_row (fun _ h => by cases h) (by kernel_rfl) (fun _ h => by cases h) lexSame_row_tie rfl ⟨rfl, rfl⟩ (by kernel_rfl) rfl
    (fun f fn hf hfn => by
      obtain rfl : f = 5 := Option.some.inj ((show Tryd.prog.funcNamed "vestry/vestrylaw09.LexSame" = some 5 by kernel_rfl).symm.trans hf) |>.symm
      obtain rfl : fn = Tryd.f5 := (Option.some.inj (Tryd.func5.symm.trans hfn)).symm
      exact ⟨by kernel_rfl, fun j t ht => by
        rw [Tryd.params5] at ht
        have h3 : t = 28 := by
          rcases j with _ | _ | j
          · simpa using ht.symm
          · simpa using ht.symm
          · simp at ht
        subst h3
        exact (show Tryd.prog.wantsStandIn 28 = false by kernel_rfl)⟩)
    (by kernel_rfl)
#print axioms same_holds
end Go.Proofs.YtepfgckaapmeoaaDoor
