/-
  DigestShort: for every array of 32 bytes the law returns true, and the argument reads as it did. Conditions: the row's own (the listed package-level variables read as their initialisers laid them; the card ties that to the program's text).
-/
import Derived.Test.YtnokgaipepejfaaGreatDoorRows
import Derived.Test.YtnokgaipepejfaaGreatDoorLDig
import Derived.Test.YtnokgaipepejfaaGreatDoorTie
import Derived.Test.YtnokgaipepejfaaGreatDoorCards
import Derived.ProofKit
import Derived.LaidMore
import Derived.OpenShut
import Derived.Stop.Joined
import Derived.LaidLaws
import Derived.LaidHandle
import Derived.ChangeArms
import Derived.WideShapes
import Derived.SizedLaws
import Derived.ShutString
import Derived.SevenTiedAt
import Derived.Carry
namespace Go.Proofs.YtnokgaipepejfaaGreatDoor
open Go.ChangeShapes Go.WideShapes Go.ChangeAt Go.RowKit
set_option linter.unusedVariables false

def laid2 : List (String × DataW Unit) := [("vestry/sha.constants", Rows.laid_vestry_sha_constants), ("vestry/name.reserved", Rows.laid_vestry_name_reserved)]
theorem own : ownKnob Tryz.prog.godebug = none := by kernel_rfl
theorem laidOut : laidOutB Tryz.prog = true := by kernel_rfl
theorem door_met (os : Os) (args : Array Value) : laidMetH Tryz.prog laid2 ((World.doorLaid Tryz.prog 19 os).forCall (fun _ _ => 0) ⟨#[], args, []⟩).memory :=
  laidMetH_of_parts3 (fuel := 8) (laidMet_of_run' 8 (by kernel_rfl) (by kernel_rfl)) (by kernel_rfl) (by kernel_rfl)
theorem row_nums (k : IntKind) : ∀ m : List Value, (∀ j, j < m.length → ∃ n, (m.drop j).take 1 = [.int k n] ∧ (Lit.int k n).wf = true) → ∃ d : List Int, m = nums k d ∧ ∀ x ∈ d, (Lit.int k x).wf = true
  | [], _ => ⟨[], rfl, fun _ h => by cases h⟩
  | v :: m, h => by
    obtain ⟨n, h0, w0⟩ := h 0 (by simp)
    obtain ⟨d, hd, hw⟩ := row_nums k m fun j hj => h (j + 1) (by simpa using hj)
    have hv : v = .int k n := by simpa using h0
    refine ⟨n :: d, by rw [hd, hv]; rfl, fun x hx => ?_⟩
    rcases List.mem_cons.1 hx with rfl | hx
    · exact w0
    · exact hw x hx
theorem wf_u8 {n : Int} (h : (Lit.int .u8 n).wf = true) : 0 ≤ n ∧ n < 256 := by
  simp [Lit.wf, IntKind.min, IntKind.max, IntKind.bits, IntKind.signed] at h; omega
theorem arr_size : Tryz.prog.cellsOf 22 = 32 := by kernel_rfl
theorem u8_size : Tryz.prog.cellsOf 5 = 1 := by kernel_rfl
set_option maxRecDepth 100000 in
theorem okWide_arr32 {w : World} {r : Reach} {base : Nat} {v : Value} (h : Value.okWide Tryz.prog w r base 22 v) : ∃ cs, v = .agg cs ∧ cs.size = Tryz.prog.cellsOf 22 := by
  simp only [Value.okWide, Tryz.underlying22] at h
  obtain ⟨cs, h1, h2, _⟩ := h
  exact ⟨cs, h1, h2⟩
set_option maxRecDepth 100000 in
theorem open_arr {H : Type} {enc : TypeId × Value → H} {W : World} {base : Nat} {v : Value} {d : DataW H} {p : List MemPlace} (hv : Value.okWide Tryz.prog W .any base 22 v)
    (h : DataW.Trod enc Tryz.prog W 0 (fun _ => true) true 22 v d p) : ∃ z : List Int, v = .agg (nums .u8 z).toArray ∧ z.length = 32 ∧ Byt z := by
  obtain ⟨cs, rfl, hsz⟩ := okWide_arr32 hv
  rw [arr_size] at hsz
  obtain ⟨fuel, hf⟩ := h
  obtain ⟨ys, m1, rfl, _, hyl, hyn, hel⟩ := DataW.trod_array Tryz.underlying22 hf
  obtain ⟨l⟩ := cs
  have hl2 : l.length = 32 := hsz
  have hcs : (Value.agg ⟨l⟩).cells.toList = l := rfl
  rw [hcs] at hel
  obtain ⟨z, hz, hw⟩ := row_nums .u8 l fun j hj => by
    have hj2 : j < 32 := by omega
    have h3 := hel j hj2
    rw [u8_size, Nat.mul_one, List.getElem?_eq_getElem (by omega)] at h3
    obtain ⟨n, e3, _, w3⟩ := DataW.trod_int Tryz.underlying5 h3
    exact ⟨n, e3, w3⟩
  refine ⟨z, by rw [hz], ?_, fun x hx => wf_u8 (hw x hx)⟩
  have := congrArg List.length hz
  rw [nums_length] at this
  omega
set_option maxRecDepth 100000 in
theorem dig_lifted (os : Os) (started : os.Started) (H : Type) (enc : TypeId × Value → H) :
    ReturnsInHanded {} Tryz.checked os 3 .any (fun w args => (Rows.digestShortSpec.pre enc Tryz.prog Tryz.f3 [] false w args ∧ laidMetH Tryz.prog laid2 w) ∧ sizedMet enc Tryz.prog Tryz.f3 (OpenSpec.ofChange Rows.digestShortSpec) false w args)
      (Rows.digestShortSpec.post enc Tryz.prog Tryz.f3 false true false false) := by
  refine returnsInHanded_of_change_and (C := Tryz.checked) (X := fun w _ => laidMetH Tryz.prog laid2 w) (fun _ _ _ hh h => h.of_heap hh) own started (by kernel_rfl) Tryz.func3
    (ChangeSpec.witness_shaped (enc := enc) (C := Tryz.checked) (os := os) (X := fun w _ => laidMetH Tryz.prog laid2 w) false (World.doorLaid Tryz.prog 19 os) #[.agg (nums .u8 (List.replicate 32 0)).toArray] 8 rfl (World.shaped_of_RefB (by kernel_rfl) (by kernel_rfl)) (by kernel_rfl) (by kernel_rfl) (by kernel_rfl) (door_met os _)) ?_
  intro W base args ds gs before hval0 hW _ hsz0 hL _
  have hval : ∀ (j : Nat) t v, Tryz.f3.params[j]? = some t → args[j]? = some v → Value.okWide Tryz.prog W .any base t v := hval0
  have hW' := hW
  obtain ⟨p, q, hA0, hV, rfl, hfz, hnd⟩ := hW
  have hA : DataW.TrodAll enc Tryz.prog W 0 (fun _ => true) true Tryz.f3.params.toList args.toList ds p := hA0
  rw [Tryz.params3] at hA hval
  obtain ⟨v0, d0, rfl, rfl, h0⟩ := trodAll_one hA
  obtain ⟨rfl, rfl⟩ := trodVars_none hV
  have hlt : ∀ x ∈ p, x.block < W.heap.size := fun x hx => hW'.lt x (List.mem_append_left _ hx)
  obtain ⟨z, rfl, hz, hzb⟩ := open_arr (hval 0 22 v0 rfl rfl) h0
  clear hA0 hval0 hsz0
  refine (law_any z hz hzb W).mono fun e W' ⟨he, bel⟩ => ?_
  subst he
  exact ⟨_, rfl, _, _, _, [], _, [], hW', trodAll_mk1 (shut_bool Tryz.underlying4 _), trodAll_mk1 (Below.trod laidOut (by kernel_rfl) (of_decide_eq_true (by kernel_rfl)) h0 bel (fun x hx => hlt x hx)), rfl, bel.frame _, fun h => by cases h⟩
theorem dig_row : Rows.DigestShortSaid :=
  OpenClaim.holds_of_wide 3 Tryz.f3 rfl rfl rfl rfl rfl rfl rfl ⟨rfl, rfl, rfl, rfl, rfl⟩ rfl rfl rfl rfl rfl (by kernel_rfl) Tryz.func3 (by kernel_rfl)
    (of_decide_eq_true (by kernel_rfl)) (by unfold Func.isWrapper; rw [if_neg (of_decide_eq_false (by kernel_rfl))]; exact ⟨rfl, rfl⟩)
    (fun os started H enc _ => dig_lifted os started H enc)
theorem dig_holds : Rows.DigestShortCardSaid :=
  Claim7.holds_tied_plain_at .later [] [.data, .widerDeep] true (true, "98c1c74a36cb717af3d7b841b758bf845460289c81945c1083f9d62fe84d0915") false
    dig_row (fun _ h => by cases h) (by kernel_rfl) (fun _ h => by cases h) digestShort_row_tie rfl ⟨rfl, rfl⟩ (by kernel_rfl) rfl
    (fun f fn hf hfn => by
      obtain rfl : f = 3 := Option.some.inj ((show Tryz.prog.funcNamed "vestry/vestrylaw17.DigestShort" = some 3 by kernel_rfl).symm.trans hf) |>.symm
      obtain rfl : fn = Tryz.f3 := (Option.some.inj (Tryz.func3.symm.trans hfn)).symm
      exact ⟨by kernel_rfl, fun j t ht => by
        rw [Tryz.params3] at ht
        rcases j with _ | j
        · have h3 : t = 22 := by simpa using ht.symm
          subst h3
          exact (show Tryz.prog.wantsStandIn 22 = false by kernel_rfl)
        · simp at ht⟩)
    (by kernel_rfl)
#print axioms dig_holds
end Go.Proofs.YtnokgaipepejfaaGreatDoor
