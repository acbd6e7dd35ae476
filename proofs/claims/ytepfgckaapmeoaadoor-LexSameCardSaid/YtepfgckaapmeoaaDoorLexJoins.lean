/-
  The law LexJoins, walked: it returns true. Conditions: the package-level variables errors.errorType and name.reserved read as their initialisers laid them.
-/
import Derived.Test.YtepfgckaapmeoaaDoorLexMatch
import Derived.Test.YtepfgckaapmeoaaDoorLexList
namespace Go.Proofs.YtepfgckaapmeoaaDoor
open Go.RowKit Go.Proofs.YtepfgckaapmeoaaDoorW.PrintWords Go.Proofs.YtepfgckaapmeoaaDoorW.PrintLast Go.Proofs.YtepfgckaapmeoaaDoorW.PrintMore Go.Proofs.YtepfgckaapmeoaaDoor.PRef
set_option linter.unusedVariables false

/-- The bytes of tokens' texts, one more for each. -/
def totS : List S36 → Nat
  | [] => 0
  | t :: l => t.f1.size + 1 + totS l
theorem totS_append (a b : List S36) : totS (a ++ b) = totS a + totS b := by
  induction a with
  | nil => simp [totS]
  | cons x a ih => rw [List.cons_append, totS, totS, ih]; omega
theorem tokGo_tot (s : ByteArray) : ∀ (K i : Nat) (acc toks : List S36) (er : Er), tokGo s K i acc = some (toks, er) → i ≤ s.size → totS toks ≤ totS acc + 2 * (s.size - i) + 1
  | 0, i, acc, toks, er, h, _ => by simp [tokGo] at h
  | K + 1, i, acc, toks, er, h, hi => by
    by_cases hlt : i < s.size
    · have ok := tokStep_ok s i hlt
      cases e : tokStep s i with
      | skip n =>
        rw [tokGo_skip hlt e] at h; rw [e] at ok
        cases ok with
        | skip ok => have := tokGo_tot s K _ _ _ _ h ok.2; omega
      | tok kd t =>
        rw [tokGo_tok hlt e] at h; rw [e] at ok
        cases ok with
        | tok ok =>
          have := tokGo_tot s K _ _ _ _ h ok.2
          rw [totS_append] at this
          have h1 : totS [(⟨kd, t, (i : Int)⟩ : S36)] = t.size + 1 := rfl
          omega
      | bad c => rw [tokGo_bad hlt e] at h; cases h; exact Nat.zero_le _
    · rw [tokGo_end hlt] at h
      cases h
      rw [totS_append]
      have h1 : totS [(⟨3, ⟨#[]⟩, (i : Int)⟩ : S36)] = 1 := rfl
      omega
theorem joinG_le : ∀ g : List S36, (joinG g).length ≤ totS g
  | [] => Nat.le_refl _
  | [t] => by
    have e : joinG [t] = t.f1.data.toList := by simp [joinG, Lib.join]
    have h1 : totS [t] = t.f1.size + 1 := rfl
    rw [e, data_len]; omega
  | t :: u :: g => by
    have ih := joinG_le (u :: g)
    rw [joinG_cons, List.length_append, List.length_cons, data_len, totS]
    omega
/-- What the joined tokens of a text that has no error say. -/
structure Rejoined (s : ByteArray) (toks again : List S36) (K : Nat) : Prop where
  small : (joinL toks).length ≤ 2 * s.size + 1
  go : tokGo ⟨(joinL toks).toArray⟩ K 0 [] = some (again, .nil)
  same : sameL again toks = true
  len : again.length ≤ 2 * s.size + 2
theorem rejoined (s : ByteArray) (K : Nat) (toks : List S36) (h : tokGo s K 0 [] = some (toks, .nil)) : ∃ again k, Rejoined s toks again k := by
  obtain ⟨g, n, h1, h2⟩ := lx_good (lx_of_go s K 0 [] _ h (Nat.zero_le _)) (fun t h => by cases h) rfl
  have h1' : toks = g ++ [⟨3, ⟨#[]⟩, n⟩] := h1
  have e : joinL toks = joinG g := by rw [h1']; exact joinL_good g n h2
  obtain ⟨again, h3, h4⟩ := joined_lx g h2 0 []
  obtain ⟨k, h5⟩ := go_of_lx ⟨(joinL toks).toArray⟩ h3 (Nat.zero_le _) (by rw [e]; rfl)
  have ht := tokGo_tot s K 0 [] _ _ h (Nat.zero_le _)
  rw [h1', totS_append] at ht
  have hj := joinG_le g
  have z : totS ([] : List S36) = 0 := rfl
  have z1 : totS [(⟨3, ⟨#[]⟩, n⟩ : S36)] = 1 := rfl
  have hs : (joinL toks).length ≤ 2 * s.size + 1 := by rw [e]; omega
  have hsz : (⟨(joinL toks).toArray⟩ : ByteArray).size = (joinL toks).length := by rw [← data_len]
  have hl := tokGo_len _ _ _ _ _ _ h5 (Nat.zero_le _) (Nat.le_refl _)
  refine ⟨again, k, hs, h5, ?_, by omega⟩
  refine decide_eq_true ?_
  rw [h4, h1', List.map_append]
  rfl
theorem ref_join_any (k : Nat) (A : Option Addr) (c : Nat) (l : List S37) (r : ByteArray) (w : World) (h0 : Kd.C k37 w A l.length l) (h1 : l.length ≤ c) (h : vestryref09_Join.f k l = some r) :
    Calls Tryd.prog 15 #[.slice A l.length c] w fun e w' => e = .returned (.string r) ∧ Below w.heap.size w w' :=
  (vestryref09_Join.calls k A c l r w h0 h1 h).mono fun e w' ⟨he, n, hn⟩ => ⟨he, hn ▸ pw_below_drewN (Below.refl _ _) n⟩

set_option maxHeartbeats 4000000 in
set_option maxRecDepth 100000 in
theorem LexJoins_any (s : ByteArray) (w : World) (hs : s.size ≤ 140737488351232) (hE : LaidErr w) (hR : LaidRes w) : Calls Tryd.prog 4 #[.string s] w (BoolPost w true) := by
  have HE := Lib.hid hE
  have HRs := Lib.hid hR
  clear hE hR
  by_cases hbig : 2000 < s.size
  · have hb2 : (2000 : Int) < s.size := by omega
    go_enter Tryd.func4, Tryd.ntmps4
    go_wp2_with fail
    refine (awake_any w HE.out HRs.out).mono ?_
    rintro e1 w1 ⟨rfl, hb1⟩
    have HB1 := Lib.hid hb1
    clear hb1
    go_wp2_with fail
    refine (awake_any w1 (HE.out.below HB1.out) (HRs.out.below HB1.out)).mono ?_
    rintro e2 w2 ⟨rfl, hb2⟩
    have HB2 := Lib.hid hb2
    clear hb2
    go_wp2_with fail
    go_ret
    exact ⟨rfl, below_chain HB1.out HB2.out⟩
  · have hb2 : ¬ (2000 : Int) < s.size := by omega
    obtain ⟨⟨toks, er⟩, hgo⟩ := tokGo_some s (s.size + 1) 0 [] (by omega) (Nat.zero_le _)
    have HG := Lib.hid hgo
    rcases (tokGo_er s _ _ _ _ _ hgo).2 with rfl | ⟨c, a, rfl, hc, rfl⟩
    · obtain ⟨again, K2, hj⟩ := rejoined s _ _ hgo
      have hsz : (⟨(joinL toks).toArray⟩ : ByteArray).size = (joinL toks).length := by rw [← data_len]
      have htl := tokGo_len s _ _ _ _ _ hgo (Nat.zero_le _) (Nat.le_refl _)
      obtain ⟨k2, hk2⟩ := refBack toks (by omega)
      obtain ⟨k3, hk3⟩ := refJoin (toks.map c37) (by rw [List.length_map]; omega) (by rw [joinR_c37]; have := hj.small; omega)
      rw [joinR_c37] at hk3
      obtain ⟨k4, hk4⟩ := refBack again (by have := hj.len; omega)
      obtain ⟨k5, hk5⟩ := refSame (again.map c37) (toks.map c37) (by rw [List.length_map]; have := hj.len; omega)
      rw [sameR_c37, hj.same] at hk5
      have hjs : (joinL toks).length ≤ 5000 := by have := hj.small; omega
      have hal : again.length ≤ 5000 := by have := hj.len; omega
      generalize toks.map c37 = m at *
      generalize again.map c37 = m2 at *
      generalize hT : (⟨(joinL toks).toArray⟩ : ByteArray) = T at *
      have hg2 := hj.go
      rw [hT] at hg2
      have HG2 := Lib.hid hg2
      have HSM := Lib.hid hj.same
      have HK2 := Lib.hid hk2
      have HK3 := Lib.hid hk3
      have HK4 := Lib.hid hk4
      have HK5 := Lib.hid hk5
      have HT := Lib.hid hT
      have HTL := Lib.hid htl
      have hTs : T.size ≤ 65536 := by omega
      clear hgo hj hk2 hk3 hk4 hk5 hT htl hg2 hsz
      go_enter Tryd.func4, Tryd.ntmps4
      go_wp2_with fail
      refine (awake_any w HE.out HRs.out).mono ?_
      rintro e1 w1 ⟨rfl, hb1⟩
      have HB1 := Lib.hid hb1
      clear hb1
      go_wp2_with fail
      refine (Tokens_any s w1 _ toks .nil (by omega) (HRs.out.below HB1.out) HG.out).mono ?_
      rintro e2 w2 ⟨v2, rfl, hr2, hb2⟩
      obtain ⟨A2, c2, rfl, hc2, hC2⟩ := Kd.R_reads hr2
      have HB2 := Lib.hid hb2
      have HC2 := Lib.hid hC2
      have HCC2 := Lib.hid hc2
      clear hr2 hb2 hC2 hc2
      rw [show erW .nil = .nilIface from rfl]
      go_wp2_with fail
      refine (Join_any A2 c2 toks w2 HC2.out HCC2.out (by have := HTL.out; omega) (by omega)).mono ?_
      rintro e3 w3 ⟨rfl, hb3⟩
      rw [HT.out]
      have HB3 := Lib.hid hb3
      have HC3 := Lib.hid (Kd.C_below HC2.out hb3)
      clear hb3 HC2
      go_wp2_with fail
      refine (Tokens_any T w3 _ again .nil hTs (((HRs.out.below HB1.out).below HB2.out).below HB3.out) HG2.out).mono ?_
      rintro e4 w4 ⟨v4, rfl, hr4, hb4⟩
      obtain ⟨A4, c4, rfl, hc4, hC4⟩ := Kd.R_reads hr4
      have HB4 := Lib.hid hb4
      have HC4 := Lib.hid (Kd.C_below HC3.out hb4)
      have HD4 := Lib.hid hC4
      have HDD4 := Lib.hid hc4
      clear hr4 hb4 hC4 hc4 HC3
      rw [show erW .nil = .nilIface from rfl]
      go_wp2_with fail
      refine (vestrylaw09_back.calls k2 A2 c2 toks m w4 HC4.out HCC2.out HK2.out).mono ?_
      rintro e5 w5 ⟨v5, rfl, hr5, hb5⟩
      obtain ⟨A5, c5, rfl, hc5, hC5⟩ := Kd.R_reads hr5
      have HB5 := Lib.hid hb5
      have HC5 := Lib.hid (Kd.C_below HC4.out hb5)
      have HD5 := Lib.hid (Kd.C_below HD4.out hb5)
      have HM5 := Lib.hid hC5
      have HMC5 := Lib.hid hc5
      clear hr5 hb5 hC5 hc5 HC4 HD4
      go_wp2_with fail
      refine (ref_join_any k3 A5 c5 m T w5 HM5.out HMC5.out HK3.out).mono ?_
      rintro e6 w6 ⟨rfl, hb6⟩
      have HB6 := Lib.hid hb6
      have HC6 := Lib.hid (Kd.C_below HC5.out hb6)
      have HD6 := Lib.hid (Kd.C_below HD5.out hb6)
      clear hb6 HC5 HD5 HM5
      go_wp2_with fail
      refine (Same_any A4 c4 again A2 c2 toks w6 HD6.out HC6.out (by omega)).mono ?_
      rintro e7 w7 ⟨rfl, hb7⟩
      rw [HSM.out]
      have HB7 := Lib.hid hb7
      have HC7 := Lib.hid (Kd.C_below HC6.out hb7)
      have HD7 := Lib.hid (Kd.C_below HD6.out hb7)
      clear hb7 HC6 HD6
      go_wp2_with fail
      refine (vestrylaw09_back.calls k4 A4 c4 again m2 w7 HD7.out HDD4.out HK4.out).mono ?_
      rintro e8 w8 ⟨v8, rfl, hr8, hb8⟩
      obtain ⟨A8, c8, rfl, hc8, hC8⟩ := Kd.R_reads hr8
      have HB8 := Lib.hid hb8
      have HC8 := Lib.hid (Kd.C_below HC7.out hb8)
      have HM8 := Lib.hid hC8
      have HMC8 := Lib.hid hc8
      clear hr8 hb8 hC8 hc8 HC7 HD7
      go_wp2_with fail
      refine (vestrylaw09_back.calls k2 A2 c2 toks m w8 HC8.out HCC2.out HK2.out).mono ?_
      rintro e9 w9 ⟨v9, rfl, hr9, hb9⟩
      obtain ⟨A9, c9, rfl, hc9, hC9⟩ := Kd.R_reads hr9
      have HB9 := Lib.hid hb9
      have HN9 := Lib.hid (Kd.C_below HM8.out hb9)
      have HM9 := Lib.hid hC9
      have HMC9 := Lib.hid hc9
      clear hr9 hb9 hC9 hc9 HC8 HM8
      go_wp2_with fail
      refine (ref_same_any k5 A8 c8 m2 A9 c9 m true w9 HN9.out HMC8.out HM9.out HMC9.out HK5.out).mono ?_
      rintro e10 w10 ⟨rfl, hb10⟩
      have HB10 := Lib.hid hb10
      clear hb10
      go_wp2_with fail
      go_ret
      exact ⟨rfl, below_chain HB1.out (below_chain HB2.out (below_chain HB3.out (below_chain HB4.out (below_chain HB5.out (below_chain HB6.out (below_chain HB7.out (below_chain HB8.out (below_chain HB9.out HB10.out))))))))⟩
    · obtain ⟨k, hk⟩ := refTokens s (by omega) _ _ hgo
      have hk2 : vestryref09_Tokens.f k s = some ([], c, a) := hk
      have HK := Lib.hid hk2
      have hcb : (c == 0) = false := by simpa using hc
      clear hgo hk hk2
      go_enter Tryd.func4, Tryd.ntmps4
      go_wp2_with fail
      refine (awake_any w HE.out HRs.out).mono ?_
      rintro e1 w1 ⟨rfl, hb1⟩
      have HB1 := Lib.hid hb1
      clear hb1
      go_wp2_with fail
      refine (Tokens_any s w1 _ [] (.fault c a) (by omega) (HRs.out.below HB1.out) HG.out).mono ?_
      rintro e2 w2 ⟨v2, rfl, hr2, hb2⟩
      obtain ⟨A2, c2, rfl, hc2, hC2⟩ := Kd.R_reads hr2
      have HB2 := Lib.hid hb2
      clear hr2 hb2 hC2 hc2
      rw [show erW (.fault c a) = .iface 64 (.agg #[.int .i64 c, .int .i64 a]) from rfl]
      go_wp2_with fail
      refine (vestryref09_Tokens.calls k s _ _ _ w2 HK.out).mono ?_
      rintro e3 w3 ⟨v3, rfl, hr3, hb3⟩
      obtain ⟨A3, c3, rfl⟩ := Kd.R_slice hr3
      have HB3 := Lib.hid hb3
      clear hr3 hb3
      have hfd : (Instr.field 30 (.agg #[.slice A3 0 c3, .int .i64 c, .int .i64 a]) 1).run Tryd.prog w3 = .ok (.int .i64 c) w3 := by kernel_rfl
      go_wp2_with fail
      go_ret
      exact ⟨ret_bool (by simp [hc]), below_chain HB1.out (below_chain HB2.out HB3.out)⟩
end Go.Proofs.YtepfgckaapmeoaaDoor
