/-
  The law LexMatchesReference, walked: it returns true. Conditions: the package-level variables errors.errorType and name.reserved read as their initialisers laid them.
-/
import Derived.Test.YtepfgckaapmeoaaDoorLexAwake
import Derived.Test.YtepfgckaapmeoaaDoorLexRefE
import Derived.Deep.RegionHeld3
namespace Go.Proofs.YtepfgckaapmeoaaDoor
open Go.RowKit Go.Proofs.YtepfgckaapmeoaaDoorW.PrintWords Go.Proofs.YtepfgckaapmeoaaDoorW.PrintLast Go.Proofs.YtepfgckaapmeoaaDoorW.PrintMore Go.Proofs.YtepfgckaapmeoaaDoor.PRef
set_option linter.unusedVariables false

theorem bad_code {s : ByteArray} {i : Nat} {c : Int} (h : tokStep s i = .bad c) : c = 5 ∨ c = 6 := by
  unfold tokStep at h
  split at h; · cases h
  split at h; · cases h
  split at h
  · unfold wordStep at h
    split at h
    · cases h
    · cases h; exact .inl rfl
  split at h; · cases h
  split at h; · cases h
  cases h; exact .inr rfl
/-- The error that the tokens' loop gives is told as its code and offset; with an error there are no tokens. -/
theorem tokGo_er (s : ByteArray) : ∀ (K i : Nat) (acc toks : List S36) (er : Er), tokGo s K i acc = some (toks, er) → toldB er er.c er.a = true ∧ (er = .nil ∨ ∃ c a, er = .fault c a ∧ c ≠ 0 ∧ toks = [])
  | 0, i, acc, toks, er, h => by simp [tokGo] at h
  | K + 1, i, acc, toks, er, h => by
    by_cases hlt : i < s.size
    · cases e : tokStep s i with
      | skip n => rw [tokGo_skip hlt e] at h; exact tokGo_er s K _ _ _ _ h
      | tok kd t => rw [tokGo_tok hlt e] at h; exact tokGo_er s K _ _ _ _ h
      | bad c =>
        rw [tokGo_bad hlt e] at h
        cases h
        have hc : c ≠ 0 := by rcases bad_code e with h | h <;> omega
        refine ⟨?_, .inr ⟨c, i, rfl, hc, rfl⟩⟩
        have h1 : (Er.fault c (i : Int)).c = c := rfl
        have h2 : (Er.fault c (i : Int)).a = i := rfl
        unfold toldB
        rw [h1, h2, if_neg hc]
        simp [Er.ok, Er.isAt]
    · rw [tokGo_end hlt] at h
      cases h
      exact ⟨rfl, .inl rfl⟩
theorem tokGo_len (s : ByteArray) : ∀ (K i : Nat) (acc toks : List S36) (er : Er), tokGo s K i acc = some (toks, er) → i ≤ s.size → acc.length ≤ i → toks.length ≤ s.size + 1
  | 0, i, acc, toks, er, h, _, _ => by simp [tokGo] at h
  | K + 1, i, acc, toks, er, h, hi, ha => by
    by_cases hlt : i < s.size
    · have ok := tokStep_ok s i hlt
      cases e : tokStep s i with
      | skip n => rw [tokGo_skip hlt e] at h; rw [e] at ok; cases ok with | skip ok => exact tokGo_len s K _ _ _ _ h ok.2 (by omega)
      | tok kd t =>
        rw [tokGo_tok hlt e] at h; rw [e] at ok
        cases ok with
        | tok ok => exact tokGo_len s K _ _ _ _ h ok.2 (by rw [List.length_append]; have h1 : [(⟨kd, t, (i : Int)⟩ : S36)].length = 1 := rfl; omega)
      | bad c => rw [tokGo_bad hlt e] at h; cases h; exact Nat.zero_le _
    · rw [tokGo_end hlt] at h
      cases h
      rw [List.length_append]
      have h1 : [(⟨3, ⟨#[]⟩, (i : Int)⟩ : S36)].length = 1 := rfl
      omega
/-- What the region of the comparison keeps. -/
structure MS (W0 : World) (A : Option Addr) (l : List S36) (B : Option Addr) (m : List S37) (w : World) : Prop where
  err : LaidErr w
  cl : Kd.C k36 w A l.length l
  cr : Kd.C k37 w B m.length m
  bel : Below W0.heap.size W0 w
theorem MS.step {W0 : World} {A : Option Addr} {l : List S36} {B : Option Addr} {m : List S37} {w w' : World} (h : MS W0 A l B m w) (hb : Below w.heap.size w w') : MS W0 A l B m w' :=
  ⟨h.err.below hb, Kd.C_below h.cl hb, Kd.C_below h.cr hb, below_chain h.bel hb⟩
theorem MS.of {W0 : World} {A : Option Addr} {l : List S36} {B : Option Addr} {m : List S37} {w : World} {a b c : Addr} {x y z : Value} (h : w.cell? a = some x ∧ w.cell? b = some y ∧ w.cell? c = some z ∧ MS W0 A l B m w) : MS W0 A l B m w := h.2.2.2
structure CmpRel (w : World) (l : List S36) (k : Nat) (n : Value) (wr : World) : Prop where
  hk : k ≤ l.length
  hn : n = .int .i64 (k : Int)
  hB : Below w.heap.size w wr
theorem ref_same_any (k : Nat) (A : Option Addr) (c : Nat) (l : List S37) (B : Option Addr) (d : Nat) (m : List S37) (r : Bool) (w : World) (h0 : Kd.C k37 w A l.length l) (h1 : l.length ≤ c) (h2 : Kd.C k37 w B m.length m) (h3 : m.length ≤ d) (h : vestryref09_Same.f k l m = some r) :
    Calls Tryd.prog 12 #[.slice A l.length c, .slice B m.length d] w (BoolPost w r) :=
  (vestryref09_Same.calls k A c l B d m r w h0 h1 h2 h3 h).mono fun e w' ⟨he, n, hn⟩ => ⟨he, hn ▸ pw_below_drewN (Below.refl _ _) n⟩
theorem cell_keep {w w' : World} {ad : Addr} {v : Value} (h : w.cell? ad = some v) (hb : Below w.heap.size w w') : w'.cell? ad = some v := (hb.cell (World.block_lt_of_cell? w _ h)).trans h
theorem four_keep {w w' : World} {a b c : Addr} {x y z : Value} {M : World → Prop} (hM : ∀ {w w'}, M w → Below w.heap.size w w' → M w') (hb : Below w.heap.size w w') (h : w.cell? a = some x ∧ w.cell? b = some y ∧ w.cell? c = some z ∧ M w) :
    w'.cell? a = some x ∧ w'.cell? b = some y ∧ w'.cell? c = some z ∧ M w' := ⟨cell_keep h.1 hb, cell_keep h.2.1 hb, cell_keep h.2.2.1 hb, hM h.2.2.2 hb⟩

set_option maxHeartbeats 4000000 in
set_option maxRecDepth 100000 in
theorem LexMatch_any (s : ByteArray) (w : World) (hs : s.size ≤ 140737488351232) (hE : LaidErr w) (hR : LaidRes w) : Calls Tryd.prog 3 #[.string s] w (BoolPost w true) := by
  have HE := Lib.hid hE
  have HRs := Lib.hid hR
  clear hE hR
  by_cases hbig : 2000 < s.size
  · have hb2 : (2000 : Int) < s.size := by omega
    go_enter Tryd.func3, Tryd.ntmps3
    go_wp2_with fail
    refine (awake_any w HE.out HRs.out).mono ?_
    rintro e1 w1 ⟨rfl, hb1⟩
    have HB1 := Lib.hid hb1
    clear hb1
    go_wp2_with fail
    refine (awake_any w1 (HE.out.below HB1.out) (HRs.out.below HB1.out)).mono ?_
    rintro e2 w2 ⟨rfl, hb2⟩
    have HB2 := Lib.hid hb2
    clear hb2
    go_wp2_with fail
    go_ret
    exact ⟨rfl, below_chain HB1.out HB2.out⟩
  · have hb2 : ¬ (2000 : Int) < s.size := by omega
    obtain ⟨⟨toks, er⟩, hgo⟩ := tokGo_some s (s.size + 1) 0 [] (by omega) (Nat.zero_le _)
    obtain ⟨k, hk⟩ := refTokens s (by omega) _ _ hgo
    have hk2 : vestryref09_Tokens.f k s = some (toks.map c37, er.c, er.a) := hk
    have htl := tokGo_len s _ _ _ _ _ hgo (Nat.zero_le _) (Nat.le_refl _)
    obtain ⟨k2, hk3⟩ := refBack toks (by omega)
    obtain ⟨k3, hk4⟩ := refSame (toks.map c37) (toks.map c37) (by rw [List.length_map]; omega)
    rw [sameR_refl] at hk4
    have hml : (toks.map c37).length = toks.length := List.length_map _
    have hat : ∀ i : Nat, i < toks.length → (rd_T36 toks (i : Int)).f2 = (rd_T37 (toks.map c37) (i : Int)).f2 := fun i h => by
      rw [rd36 toks i h, rd37 (toks.map c37) i (by omega), List.getElem_map]; rfl
    generalize toks.map c37 = m at *
    have HML := Lib.hid hml
    have HAT := Lib.hid hat
    clear hml hat
    have htd := (tokGo_er s _ _ _ _ _ hgo).1
    have HTD := Lib.hid htd
    have HK3 := Lib.hid hk3
    have HK4 := Lib.hid hk4
    have HTL := Lib.hid htl
    have HG := Lib.hid hgo
    have HK := Lib.hid hk2
    clear hgo hk hk2 hk3 hk4 htl htd
    go_enter Tryd.func3, Tryd.ntmps3
    go_wp2_with fail
    refine (awake_any w HE.out HRs.out).mono ?_
    rintro e1 w1 ⟨rfl, hb1⟩
    have HB1 := Lib.hid hb1
    clear hb1
    go_wp2_with fail
    refine (Tokens_any s w1 _ toks er (by omega) (HRs.out.below HB1.out) HG.out).mono ?_
    rintro e2 w2 ⟨v2, rfl, hr2, hb2⟩
    obtain ⟨A2, c2, rfl, hc2, hC2⟩ := Kd.R_reads hr2
    have HB2 := Lib.hid hb2
    have HC2 := Lib.hid hC2
    have HCC2 := Lib.hid hc2
    clear hr2 hb2 hC2 hc2
    go_wp2_with fail
    refine (vestryref09_Tokens.calls k s _ _ _ w2 HK.out).mono ?_
    rintro e3 w3 ⟨v3, rfl, hr3, hb3⟩
    obtain ⟨A3, c3, rfl, hc3, hC3⟩ := Kd.R_reads hr3
    have HB3 := Lib.hid hb3
    have HC3 := Lib.hid hC3
    have HCC3 := Lib.hid hc3
    clear hr3 hb3 hC3 hc3
    have HS : Hid (MS w3 A2 toks A3 m w3) := Lib.hid ⟨((HE.out.below HB1.out).below HB2.out).below HB3.out, Kd.C_below HC2.out HB3.out, HC3.out, Below.refl _ _⟩
    go_wp2_with fail
    have HS0 : MS w3 A2 toks A3 m (w3.alloc (.cells #[.slice A3 m.length c3, .int .i64 er.c, .int .i64 er.a] 30 (0, 0))).drew := HS.out.step (below_drew (Below.alloc (Below.refl _ _) (Nat.le_refl _) _))
    go_region_held3 (fun W => W.cell? ⟨w3.heap.size, 0, none⟩ = some (.slice A3 m.length c3) ∧ W.cell? ⟨w3.heap.size, 1, none⟩ = some (.int .i64 er.c) ∧ W.cell? ⟨w3.heap.size, 2, none⟩ = some (.int .i64 er.a) ∧ MS w3 A2 toks A3 m W)
      (first | (exact four_keep (M := MS w3 A2 toks A3 m) MS.step (by assumption) (by assumption)) | (simp [*]; done))
      (first
        | (go_at_call 11; refine (told_any er er.c er.a _ ?_).mono ?_; (exact (‹_ ∧ _ ∧ _ ∧ MS w3 A2 toks A3 m _›).2.2.2.err); rintro e w' ⟨he, hb⟩; rw [HTD.out] at he; subst he)
        | (go_at_call 13; refine (vestrylaw09_back.calls k2 A2 c2 toks _ _ ?_ HCC2.out HK3.out).mono ?_; (exact (‹_ ∧ _ ∧ _ ∧ MS w3 A2 toks A3 m _›).2.2.2.cl); rintro e w' ⟨v5, he, hr5, hb⟩; obtain ⟨A5, c5, rfl, hc5, hC5⟩ := Kd.R_reads hr5; subst he)
        | (go_at_call 12; refine (ref_same_any k3 _ _ m _ _ m _ _ ?_ ?_ ?_ ?_ HK4.out).mono ?_; (assumption); (assumption); (exact (‹_ ∧ _ ∧ _ ∧ MS w3 A2 toks A3 m _›).2.2.2.cr); (exact HCC3.out); rintro e w' ⟨rfl, hb⟩))
    obtain ⟨g0, _, _, hM⟩ := ‹_ ∧ _ ∧ _ ∧ MS w3 A2 toks A3 m w'›
    have HM := Lib.hid hM
    have G0 := Lib.hid g0
    have HL0 := HTL.out
    clear hM g0 HS0
    go_wp2_with fail
    go_loopw [6] (fun n wr => ∃ k : Nat, CmpRel w' toks k n wr) (fun n _ => toks.length - (intOf n).toNat)
    case atStart => exact ⟨0, Nat.zero_le _, rfl, Below.refl _ _⟩
    case round =>
      obtain ⟨k, hI⟩ := hrel
      obtain ⟨hk, rfl, hB⟩ := hI
      have HB := Lib.hid hB
      clear hB
      by_cases hlt : k < toks.length
      · obtain ⟨ad, e, h0, h1, h2⟩ := at_T36 HM.out.cl (k : Int) (by omega) (by omega)
        obtain ⟨bd, e', q0, q1, q2⟩ := at_T37 HM.out.cr (k : Int) (by omega) (by have := HML.out; omega)
        cases e
        cases e'
        rw [Int.toNat_natCast] at h2 q2
        replace h2 := cell_keep h2 HB.out
        replace q2 := cell_keep q2 HB.out
        have g0 := cell_keep G0.out HB.out
        have hf := HAT.out k hlt
        rw [hf] at h2
        have hml := HML.out
        clear h0 h1 q0 q1 hf
        go_wp2_with fail
        go_quiet (fail)
        go_wp2_with fail
        go_roundw
        case rel => exact ⟨k + 1, hlt, by go_num, pw_below_drewN HB.out _⟩
        case measure => simp [intOf]; omega
      · go_wp2_with fail
        go_ret
        exact ⟨rfl, below_chain HB1.out (below_chain HB2.out (below_chain HB3.out (below_chain HM.out.bel HB.out)))⟩
end Go.Proofs.YtepfgckaapmeoaaDoor
