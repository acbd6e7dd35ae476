/-
  The law LexComments, walked: it returns true. Conditions: the package-level variables errors.errorType and name.reserved read as their initialisers laid them.
-/
import Derived.Test.YtepfgckaapmeoaaDoorLexWrap
namespace Go.Proofs.YtepfgckaapmeoaaDoor
open Go.RowKit Go.Proofs.YtepfgckaapmeoaaDoorW.PrintWords Go.Proofs.YtepfgckaapmeoaaDoorW.PrintLast Go.Proofs.YtepfgckaapmeoaaDoorW.PrintMore Go.Proofs.YtepfgckaapmeoaaDoor.PRef
set_option linter.unusedVariables false

/-- The rounds of a loop over a text's bytes. -/
structure AllRel (p : UInt8 → Bool) (s : ByteArray) (w : World) (k : Nat) (n : Value) (wr : World) : Prop where
  hk : k ≤ s.size
  hn : n = .int .i64 (k : Int)
  ha : (s.data.toList.take k).all p = true
  hB : Below w.heap.size w wr
theorem all_done {p : UInt8 → Bool} {s : ByteArray} {k : Nat} (hk : k ≤ s.size) (h : ¬ k < s.size) (ha : (s.data.toList.take k).all p = true) : ∀ x ∈ s.data.toList, p x = true := by
  rw [List.take_of_length_le (by rw [data_len]; omega)] at ha
  exact List.all_eq_true.1 ha
theorem go_at (s : ByteArray) : ∀ (K i : Nat) (acc toks : List S36) (er : Er), tokGo s K i acc = some (toks, er) → i ≤ s.size → ∀ c a, er = .fault c a → a ≤ s.size
  | 0, i, acc, toks, er, h, _ => by simp [tokGo] at h
  | K + 1, i, acc, toks, er, h, hi => by
    by_cases hlt : i < s.size
    · have ok := tokStep_ok s i hlt
      cases e : tokStep s i with
      | skip n => rw [tokGo_skip hlt e] at h; rw [e] at ok; cases ok with | skip ok => exact go_at s K _ _ _ _ h ok.2
      | tok kd t => rw [tokGo_tok hlt e] at h; rw [e] at ok; cases ok with | tok ok => exact go_at s K _ _ _ _ h ok.2
      | bad c =>
        rw [tokGo_bad hlt e] at h
        cases h
        intro c a h
        cases h
        omega
    · rw [tokGo_end hlt] at h
      cases h
      intro c a h
      cases h
theorem sp_yes4 (c : UInt8) (h : isSp c = true) : (c.toNat : Int) = 32 ∨ (c.toNat : Int) = 9 ∨ (c.toNat : Int) = 10 ∨ (c.toNat : Int) = 13 := by
  have h1 := every_byte (P := fun c => !isSp c || decide ((c.toNat : Int) = 32 ∨ (c.toNat : Int) = 9 ∨ (c.toNat : Int) = 10 ∨ (c.toNat : Int) = 13)) (by decide +kernel) c
  rw [h] at h1
  exact of_decide_eq_true h1
theorem sp_no4 (c : UInt8) (h : isSp c = false) : ¬ (c.toNat : Int) = 32 ∧ ¬ (c.toNat : Int) = 9 ∧ ¬ (c.toNat : Int) = 10 ∧ ¬ (c.toNat : Int) = 13 := by
  have h1 := every_byte (P := fun c => isSp c || decide (¬ (c.toNat : Int) = 32 ∧ ¬ (c.toNat : Int) = 9 ∧ ¬ (c.toNat : Int) = 10 ∧ ¬ (c.toNat : Int) = 13)) (by decide +kernel) c
  rw [h] at h1
  exact of_decide_eq_true h1
set_option maxHeartbeats 4000000 in
set_option maxRecDepth 100000 in
theorem LexComments_any (s c b : ByteArray) (w : World) (hs : s.size ≤ 140737488351232) (hcs : c.size ≤ 140737488351232) (hbs : b.size ≤ 140737488351232) (hE : LaidErr w) (hR : LaidRes w) : Calls Tryd.prog 7 #[.string s, .string c, .string b] w (BoolPost w true) := by
  have HE := Lib.hid hE
  have HRs := Lib.hid hR
  clear hE hR
  by_cases hbig : (1000 < s.size ∨ 300 < c.size) ∨ 100 < b.size
  · have fin : ∀ w1, Below w.heap.size w w1 → Calls Tryd.prog 8 #[] w1 (BoolPost w1 true) := fun w1 h => awake_any w1 (HE.out.below h) (HRs.out.below h)
    have FIN := Lib.hid fin
    clear fin
    by_cases h1 : (1000 : Int) < s.size
    · clear hbig
      go_enter Tryd.func7, Tryd.ntmps7
      go_wp2_with fail
      refine (FIN.out w (Below.refl _ _)).mono ?_
      rintro e1 w1 ⟨rfl, hb1⟩
      have HB1 := Lib.hid hb1
      clear hb1
      go_wp2_with fail
      refine (FIN.out w1 HB1.out).mono ?_
      rintro e2 w2 ⟨rfl, hb2⟩
      have HB2 := Lib.hid hb2
      clear hb2
      go_wp2_with fail
      go_ret
      exact ⟨rfl, below_chain HB1.out HB2.out⟩
    by_cases h2 : (300 : Int) < c.size
    · clear hbig
      go_enter Tryd.func7, Tryd.ntmps7
      go_wp2_with fail
      refine (FIN.out w (Below.refl _ _)).mono ?_
      rintro e1 w1 ⟨rfl, hb1⟩
      have HB1 := Lib.hid hb1
      clear hb1
      go_wp2_with fail
      refine (FIN.out w1 HB1.out).mono ?_
      rintro e2 w2 ⟨rfl, hb2⟩
      have HB2 := Lib.hid hb2
      clear hb2
      go_wp2_with fail
      go_ret
      exact ⟨rfl, below_chain HB1.out HB2.out⟩
    · have h3 : (100 : Int) < b.size := by omega
      clear hbig
      go_enter Tryd.func7, Tryd.ntmps7
      go_wp2_with fail
      refine (FIN.out w (Below.refl _ _)).mono ?_
      rintro e1 w1 ⟨rfl, hb1⟩
      have HB1 := Lib.hid hb1
      clear hb1
      go_wp2_with fail
      refine (FIN.out w1 HB1.out).mono ?_
      rintro e2 w2 ⟨rfl, hb2⟩
      have HB2 := Lib.hid hb2
      clear hb2
      go_wp2_with fail
      go_ret
      exact ⟨rfl, below_chain HB1.out HB2.out⟩
  · have h1 : ¬ (1000 : Int) < s.size := by omega
    have h2 : ¬ (300 : Int) < c.size := by omega
    have h3 : ¬ (100 : Int) < b.size := by omega
    clear hbig
    go_enter Tryd.func7, Tryd.ntmps7
    go_wp2_with fail
    refine (awake_any w HE.out HRs.out).mono ?_
    rintro e1 w1 ⟨rfl, hb1⟩
    have HB1 := Lib.hid hb1
    clear hb1
    go_wp2_with fail
    go_loopw [7] (fun n wr => ∃ k : Nat, AllRel notNL c w1 k n wr) (fun n _ => c.size - (intOf n).toNat)
    case atStart => exact ⟨0, Nat.zero_le _, rfl, rfl, Below.refl _ _⟩
    case round =>
      obtain ⟨k, hI⟩ := hrel
      obtain ⟨hk, rfl, ha, hB⟩ := hI
      have HA := Lib.hid ha
      have HB := Lib.hid hB
      clear ha hB
      by_cases hlt : k < c.size
      · cases hm : notNL c[k] with
        | true =>
          have hne : ¬ ((c[k].toNat : Int) = 10) := of_decide_eq_true hm
          have HM := Lib.hid hm
          clear hm
          go_wp2_with fail
          go_roundw
          case rel => exact ⟨k + 1, hlt, by go_num, all_snoc hlt HA.out HM.out, HB.out⟩
          case measure => simp [intOf]; omega
        | false =>
          have hne : (c[k].toNat : Int) = 10 := by simpa [notNL] using hm
          clear hm
          go_wp2_with fail
          go_ret
          exact ⟨rfl, below_chain HB1.out HB.out⟩
      · have hca := all_done hk hlt HA.out
        have HCA := Lib.hid hca
        clear hca
        go_wp2_with fail
        go_loopw [8] (fun n wq => ∃ k : Nat, AllRel isSp b wr k n wq) (fun n _ => b.size - (intOf n).toNat)
        case atStart => exact ⟨0, Nat.zero_le _, rfl, rfl, Below.refl _ _⟩
        case round =>
          obtain ⟨k2, hI⟩ := hrel
          obtain ⟨hk2, rfl, ha2, hB2⟩ := hI
          have HA2 := Lib.hid ha2
          have HB2 := Lib.hid hB2
          clear ha2 hB2
          by_cases hlt2 : k2 < b.size
          · cases hm : isSp b[k2] with
            | true =>
              have h4 := sp_yes4 _ hm
              have HM := Lib.hid hm
              clear hm
              rcases h4 with h4 | h4 | h4 | h4
              · go_wp2_with fail
                go_roundw
                case rel => exact ⟨k2 + 1, hlt2, by go_num, all_snoc hlt2 HA2.out HM.out, HB2.out⟩
                case measure => simp [intOf]; omega
              · go_wp2_with fail
                go_roundw
                case rel => exact ⟨k2 + 1, hlt2, by go_num, all_snoc hlt2 HA2.out HM.out, HB2.out⟩
                case measure => simp [intOf]; omega
              · go_wp2_with fail
                go_roundw
                case rel => exact ⟨k2 + 1, hlt2, by go_num, all_snoc hlt2 HA2.out HM.out, HB2.out⟩
                case measure => simp [intOf]; omega
              · go_wp2_with fail
                go_roundw
                case rel => exact ⟨k2 + 1, hlt2, by go_num, all_snoc hlt2 HA2.out HM.out, HB2.out⟩
                case measure => simp [intOf]; omega
            | false =>
              obtain ⟨h4, h5, h6, h7⟩ := sp_no4 _ hm
              have g4 : ((b[k2].toNat : Int) != 32) = true := by simpa using h4
              have g5 : ((b[k2].toNat : Int) != 9) = true := by simpa using h5
              have g6 : ((b[k2].toNat : Int) != 10) = true := by simpa using h6
              have g7 : ((b[k2].toNat : Int) != 13) = true := by simpa using h7
              clear hm
              go_wp2_with fail
              go_ret
              exact ⟨rfl, below_chain HB1.out (below_chain HB.out HB2.out)⟩
          · have hba := all_done hk2 hlt2 HA2.out
            obtain ⟨⟨toks, er⟩, hgo⟩ := tokGo_some s (s.size + 1) 0 [] (by omega) (Nat.zero_le _)
            obtain ⟨kr, hkr⟩ := refTokens s (by omega) _ _ hgo
            have htl := tokGo_len s _ _ _ _ _ hgo (Nat.zero_le _) (Nat.le_refl _)
            obtain ⟨kw, r2, hgw, hsh⟩ := wrapped_go b c s HCA.out hba _ _ hgo
            have her := (tokGo_er s _ _ _ _ _ hgo).2
            have hile := go_at s _ _ _ _ _ hgo (Nat.zero_le _)
            have hwz : (wrapped b c s).size ≤ 65536 := by
              unfold wrapped
              simp only [ByteArray.size_append]
              have q1 : (⟨#[47, 47]⟩ : ByteArray).size = 2 := rfl
              have q2 : (⟨#[10]⟩ : ByteArray).size = 1 := rfl
              have q3 : (⟨#[10, 47, 47]⟩ : ByteArray).size = 3 := rfl
              omega
            have HGW := Lib.hid hgw
            have HWZ := Lib.hid hwz
            have HBC := Lib.hid (below_chain HB1.out (below_chain HB.out HB2.out))
            clear hba hgo hgw hwz
            cases hsh with
            | @good _ toks2 hk =>
              have hkr2 : vestryref09_Tokens.f kr s = some (toks.map c37, 0, 0) := hkr
              have htl2 := congrArg List.length hk
              rw [List.length_map, List.length_map] at htl2
              obtain ⟨k2, hk2⟩ := refBack toks2 (by omega)
              obtain ⟨k3, hk3⟩ := refSame (toks2.map c37) (toks.map c37) (by rw [List.length_map]; omega)
              have hsm : sameL toks2 toks = true := decide_eq_true hk.symm
              rw [sameR_c37, hsm] at hk3
              generalize toks.map c37 = m at *
              generalize toks2.map c37 = m2 at *
              have HKR := Lib.hid hkr2
              have HK2 := Lib.hid hk2
              have HK3 := Lib.hid hk3
              clear hkr hkr2 hk2 hk3 hk htl htl2 her hsm
              go_wp2_with fail
              refine (vestryref09_Tokens.calls kr s _ _ _ _ HKR.out).mono ?_
              rintro e3 w3 ⟨v3, rfl, hr3, hb3⟩
              obtain ⟨A3, c3, rfl, hc3, hC3⟩ := Kd.R_reads hr3
              have HB3 := Lib.hid hb3
              have HC3 := Lib.hid hC3
              have HCC3 := Lib.hid hc3
              clear hr3 hb3 hC3 hc3
              go_wp2_with fail
              have HB0 := Lib.hid (below_chain (below_chain HBC.out HB3.out) (Below.alloc (Below.refl _ _) (Nat.le_refl _) (.cells #[.slice A3 m.length c3, .int .i64 0, .int .i64 0] 30 (0, 0))))
              refine (Tokens_any (wrapped b c s) _ kw toks2 .nil HWZ.out (HRs.out.below HB0.out) HGW.out).mono ?_
              rintro e4 w4 ⟨v4, rfl, hr4, hb4⟩
              obtain ⟨A4, c4, rfl, hc4, hC4⟩ := Kd.R_reads hr4
              have g0 : w4.cell? ⟨w3.heap.size, 0, none⟩ = some (.slice A3 m.length c3) := cell_keep (by simp) hb4
              have g1 : w4.cell? ⟨w3.heap.size, 1, none⟩ = some (.int .i64 0) := cell_keep (by simp) hb4
              have g2 : w4.cell? ⟨w3.heap.size, 2, none⟩ = some (.int .i64 0) := cell_keep (by simp) hb4
              have hb5 := below_chain HB0.out hb4
              have HS : Hid (MS w4 A4 toks2 A3 m w4) := Lib.hid ⟨HE.out.below hb5, hC4, Kd.C_below (Kd.C_below HC3.out (Below.alloc (Below.refl _ _) (Nat.le_refl _) _)) hb4, Below.refl _ _⟩
              have HB5 := Lib.hid hb5
              have HCC4 := Lib.hid hc4
              clear hr4 hb4 hC4 hc4 hb5
              rw [show erW .nil = .nilIface from rfl]
              go_wp2_with fail
              have HS0 : MS w4 A4 toks2 A3 m w4.drew := HS.out.step (below_drew (Below.refl _ _))
              go_region_held3 (fun W => W.cell? ⟨w3.heap.size, 0, none⟩ = some (.slice A3 m.length c3) ∧ W.cell? ⟨w3.heap.size, 1, none⟩ = some (.int .i64 0) ∧ W.cell? ⟨w3.heap.size, 2, none⟩ = some (.int .i64 0) ∧ MS w4 A4 toks2 A3 m W)
                (first | (exact four_keep (M := MS w4 A4 toks2 A3 m) MS.step (by assumption) (by assumption)) | (simp [*]; done))
                (first
                  | (go_at_call 13; refine (vestrylaw09_back.calls k2 A4 c4 toks2 m2 _ ?_ HCC4.out HK2.out).mono ?_; (exact (‹_ ∧ _ ∧ _ ∧ MS w4 A4 toks2 A3 m _›).2.2.2.cl); rintro e w' ⟨v5, he, hr5, hb⟩; obtain ⟨A5, c5, rfl, hc5, hC5⟩ := Kd.R_reads hr5; subst he)
                  | (go_at_call 12; refine (ref_same_any k3 _ _ m2 _ _ m _ _ ?_ ?_ ?_ ?_ HK3.out).mono ?_; (assumption); (assumption); (exact (‹_ ∧ _ ∧ _ ∧ MS w4 A4 toks2 A3 m _›).2.2.2.cr); (exact HCC3.out); rintro e w' ⟨rfl, hb⟩))
              obtain ⟨_, _, _, hM⟩ := ‹_ ∧ _ ∧ _ ∧ MS w4 A4 toks2 A3 m w'›
              have HM := Lib.hid hM
              clear hM HS0
              go_wp2_with fail
              go_ret
              exact ⟨rfl, below_chain HB5.out HM.out.bel⟩
            | @bad c1 i1 =>
              have hkr2 : vestryref09_Tokens.f kr s = some ([], c1, (i1 : Int)) := hkr
              have hc1 : c1 ≠ 0 := by
                rcases her with h | ⟨c', a', h, hc, _⟩
                · cases h
                · cases h; exact hc
              have hcb : (c1 != 0) = true := by simpa using hc1
              have hil : (i1 : Int) ≤ s.size := hile _ _ rfl
              have hfr : ((b ++ (⟨#[47, 47]⟩ : ByteArray) ++ c ++ (⟨#[10]⟩ : ByteArray)).size) = frontN b c := by
                simp only [ByteArray.size_append]
                have q1 : (⟨#[47, 47]⟩ : ByteArray).size = 2 := rfl
                have q2 : (⟨#[10]⟩ : ByteArray).size = 1 := rfl
                unfold frontN
                omega
              have hto : toldB (.fault c1 ((i1 + frontN b c : Nat) : Int)) c1 ((i1 + frontN b c : Nat) : Int) = true := by
                have e1 : (Er.fault c1 ((i1 + frontN b c : Nat) : Int)).c = c1 := rfl
                have e2 : (Er.fault c1 ((i1 + frontN b c : Nat) : Int)).a = ((i1 + frontN b c : Nat) : Int) := rfl
                unfold toldB
                rw [e1, e2, if_neg hc1]
                simp [Er.ok, Er.isAt]
              have hfn : frontN b c ≤ 1000 := by unfold frontN; omega
              have HTO := Lib.hid hto
              have HKR := Lib.hid hkr2
              clear hkr hkr2 htl her hto
              go_wp2_with fail
              refine (vestryref09_Tokens.calls kr s _ _ _ _ HKR.out).mono ?_
              rintro e3 w3 ⟨v3, rfl, hr3, hb3⟩
              obtain ⟨A3, c3, rfl, hc3, hC3⟩ := Kd.R_reads hr3
              have HB3 := Lib.hid hb3
              have HC3 := Lib.hid hC3
              have HCC3 := Lib.hid hc3
              clear hr3 hb3 hC3 hc3
              go_wp2_with fail
              have HB0 := Lib.hid (below_chain (below_chain HBC.out HB3.out) (Below.alloc (Below.refl _ _) (Nat.le_refl _) (.cells #[.slice A3 0 c3, .int .i64 c1, .int .i64 (i1 : Int)] 30 (0, 0))))
              refine (Tokens_any (wrapped b c s) _ kw [] (.fault c1 ((i1 + frontN b c : Nat) : Int)) HWZ.out (HRs.out.below HB0.out) HGW.out).mono ?_
              rintro e4 w4 ⟨v4, rfl, hr4, hb4⟩
              obtain ⟨A4, c4, rfl, hc4, hC4⟩ := Kd.R_reads hr4
              have g0 : w4.cell? ⟨w3.heap.size, 0, none⟩ = some (.slice A3 0 c3) := cell_keep (by simp) hb4
              have g1 : w4.cell? ⟨w3.heap.size, 1, none⟩ = some (.int .i64 c1) := cell_keep (by simp) hb4
              have g2 : w4.cell? ⟨w3.heap.size, 2, none⟩ = some (.int .i64 (i1 : Int)) := cell_keep (by simp) hb4
              have hb5 := below_chain HB0.out hb4
              have HS : Hid (MS w4 A4 [] A3 [] w4) := Lib.hid ⟨HE.out.below hb5, hC4, Kd.C_below (Kd.C_below HC3.out (Below.alloc (Below.refl _ _) (Nat.le_refl _) _)) hb4, Below.refl _ _⟩
              have HB5 := Lib.hid hb5
              have HCC4 := Lib.hid hc4
              clear hr4 hb4 hC4 hc4 hb5
              rw [show erW (.fault c1 ((i1 + frontN b c : Nat) : Int)) = .iface 64 (.agg #[.int .i64 c1, .int .i64 ((i1 + frontN b c : Nat) : Int)]) from rfl]
              go_wp2_with fail
              have htold : Calls Tryd.prog 11 #[.iface 64 (.agg #[.int .i64 c1, .int .i64 ((i1 : Int) + (frontN b c : Int))]), .int .i64 c1, .int .i64 ((i1 : Int) + (frontN b c : Int))] w4 (BoolPost w4 true) := by
                have h := told_any (.fault c1 ((i1 + frontN b c : Nat) : Int)) c1 ((i1 + frontN b c : Nat) : Int) w4 HS.out.err
                rw [HTO.out, Int.natCast_add] at h
                exact h
              refine htold.mono ?_
              rintro e5 w5 ⟨rfl, hb6⟩
              have HB6 := Lib.hid hb6
              clear hb6
              go_wp2_with fail
              go_ret
              exact ⟨rfl, below_chain HB5.out HB6.out⟩
end Go.Proofs.YtepfgckaapmeoaaDoor
