/-
  The contract of package lex's Tokens: it computes the plain function tokGo. Condition: the package-level variable name.reserved reads as its initialiser laid it.
-/
import Derived.Test.YtepfgckaapmeoaaDoorLexTok
import Derived.Outline
import Derived.WalkMore
import Derived.Deep.RegionWith
namespace Go.Proofs.YtepfgckaapmeoaaDoor
open Go.RowKit Go.Proofs.YtepfgckaapmeoaaDoorW.PrintWords Go.Proofs.YtepfgckaapmeoaaDoorW.PrintLast Go.Proofs.YtepfgckaapmeoaaDoorW.PrintMore Go.Proofs.YtepfgckaapmeoaaDoor.PRef
set_option linter.unusedVariables false

theorem sp_yes {s : ByteArray} {i : Nat} (h : i < s.size) (hs : isSp (atB s i) = true) : 0 ≤ Lib.indexByte [32, 9, 10, 13] s[i] := by
  rw [atB_eq s i h]
  by_cases h1 : (Lib.indexByte [32, 9, 10, 13] (atB s i)) < 0
  · have h2 := indexByte_not _ _ h1
    unfold isSp at hs
    exact absurd (of_decide_eq_true hs) h2
  · omega
theorem sp_no {s : ByteArray} {i : Nat} (h : i < s.size) (hs : isSp (atB s i) = false) : Lib.indexByte [32, 9, 10, 13] s[i] < 0 := by
  rw [atB_eq s i h]
  by_cases h1 : (Lib.indexByte [32, 9, 10, 13] (atB s i)) < 0
  · exact h1
  · have h2 := indexByte_mem _ _ (Int.not_lt.1 h1)
    unfold isSp at hs
    exact absurd h2 (of_decide_eq_false hs)
theorem sg_yes {s : ByteArray} {i : Nat} (h : i < s.size) (hs : isSg (atB s i) = true) : 0 ≤ Lib.indexByte [123, 125, 40, 41, 58, 59, 61, 124, 35, 43, 38, 45] s[i] := by
  rw [atB_eq s i h]
  by_cases h1 : (Lib.indexByte [123, 125, 40, 41, 58, 59, 61, 124, 35, 43, 38, 45] (atB s i)) < 0
  · have h2 := indexByte_not _ _ h1
    unfold isSg at hs
    exact absurd (of_decide_eq_true hs) h2
  · omega
theorem sg_no {s : ByteArray} {i : Nat} (h : i < s.size) (hs : isSg (atB s i) = false) : Lib.indexByte [123, 125, 40, 41, 58, 59, 61, 124, 35, 43, 38, 45] s[i] < 0 := by
  rw [atB_eq s i h]
  by_cases h1 : (Lib.indexByte [123, 125, 40, 41, 58, 59, 61, 124, 35, 43, 38, 45] (atB s i)) < 0
  · exact h1
  · have h2 := indexByte_mem _ _ (Int.not_lt.1 h1)
    unfold isSg at hs
    exact absurd h2 (of_decide_eq_false hs)
theorem word_ne {s : ByteArray} {i : Nat} (h : i < s.size) (hw : wordB (atB s i) = true) : ¬ (wordAt s i).toList = [] := by
  have h1 := (word_pos h).2 hw
  rw [ByteArray.toList_eq]
  intro h2
  have h3 : (wordAt s i).data.toList.length = (wordAt s i).size := Array.length_toList
  rw [h2] at h3
  have h4 : ([] : List UInt8).length = 0 := rfl
  omega
theorem word_nil {s : ByteArray} {i : Nat} (h : i < s.size) (hw : wordB (atB s i) = false) : (wordAt s i).toList = [] := by
  have h1 : ¬ 0 < (wordAt s i).size := fun h0 => by rw [(word_pos h).1 h0] at hw; cases hw
  rw [ByteArray.toList_eq]
  have h3 : (wordAt s i).data.toList.length = (wordAt s i).size := Array.length_toList
  exact List.length_eq_zero_iff.1 (by omega)
theorem word_small {s : ByteArray} {i : Nat} (hs : s.size ≤ 65536) (h : i < s.size) (hw : wordB (atB s i) = true) : (wordAt s i).size ≤ 140737488351232 := by
  have := (word_fit h hw).2
  omega
structure TokInv (s : ByteArray) (w : World) (K : Nat) (toks : List S36) (er : Er) (kq i : Nat) (acc : List S36) (v : Value) (wr : World) : Prop where
  hi : i ≤ s.size
  hacc : acc.length ≤ i
  hgo : tokGo s kq i acc = some (toks, er)
  hk : kq ≤ K
  h4 : wr.heap[w.heap.size]? = some (.cells #[v] 23 (0, 0))
  h5 : wr.heap[w.heap.size + 1]? = some (.cells #[.int .i64 (i : Int)] 3 (0, 0))
  hR : Kd.R k36 36 wr w.heap.size (fun _ => True) v acc
  hB : Below w.heap.size w wr
structure TokPost (w : World) (toks : List S36) (er : Er) (e : Ending) (w' : World) : Prop where
  out : ∃ v : Value, e = .returned (.tuple #[v, erW er]) ∧ Kd.R k36 36 w' w.heap.size (fun _ => True) v toks ∧ Below w.heap.size w w'

theorem inv_skip {s : ByteArray} {w : World} {K : Nat} {toks : List S36} {er : Er} {kq i n : Nat} {acc : List S36} {v : Value} {wr W : World} (hI : TokInv s w K toks er (kq + 1) i acc v wr) (hlt : i < s.size)
    (hst : tokStep s i = .skip n) (hb : Below wr.heap.size wr W) {u : Value} (hu : u = .int .i64 ((i + n : Nat) : Int)) : TokInv s w K toks er kq (i + n) acc v (W.setCell ⟨w.heap.size + 1, 0, none⟩ u) := by
  have ok := tokStep_ok s i hlt
  rw [hst] at ok
  cases ok with
  | skip ok =>
  subst hu
  have g4 := blk_below hI.h4 hb
  have g5 := blk_below hI.h5 hb
  have hne : w.heap.size ≠ w.heap.size + 1 := by omega
  refine ⟨ok.2, by have := hI.hacc; omega, ?_, by have := hI.hk; omega, blk_far g4 (p := ⟨w.heap.size + 1, 0, none⟩) hne _, by simpa using blk_set g5 0 (.int .i64 ((i + n : Nat) : Int)), Kd.R_set (Kd.R_below hI.hR hb) g5 (by decide) 0 _, ?_⟩
  · rw [← tokGo_skip hlt hst]; exact hI.hgo
  · exact (hI.hB.trans (hb.mono hI.hB.size)).setCell (by simp) _
theorem inv_tok {s : ByteArray} {w : World} {K : Nat} {toks : List S36} {er : Er} {kq i : Nat} {kd : Int} {t : ByteArray} {acc : List S36} {v : Value} {wr w' : World} (hI : TokInv s w K toks er (kq + 1) i acc v wr) (hlt : i < s.size)
    (hst : tokStep s i = .tok kd t) (ha : Added kd t w.heap.size (w.heap.size + 1) w.heap.size acc i wr w') : ∃ v', TokInv s w K toks er kq (i + t.size) (acc ++ [⟨kd, t, (i : Int)⟩]) v' w' := by
  have ok := tokStep_ok s i hlt
  rw [hst] at ok
  cases ok with
  | tok ok =>
  obtain ⟨v', a4, a5, aR, aB⟩ := ha
  refine ⟨v', ok.2, by have := hI.hacc; rw [List.length_append]; have h1 : [(⟨kd, t, (i : Int)⟩ : S36)].length = 1 := rfl; omega, ?_, by have := hI.hk; omega, a4, a5, aR, hI.hB.trans aB⟩
  rw [← tokGo_tok hlt hst]; exact hI.hgo
theorem inv_bad {s : ByteArray} {w : World} {K : Nat} {toks : List S36} {er : Er} {kq i : Nat} {c : Int} {acc : List S36} {v : Value} {wr : World} (hI : TokInv s w K toks er (kq + 1) i acc v wr) (hlt : i < s.size)
    (hst : tokStep s i = .bad c) : TokPost w toks er (.returned (.tuple #[.slice none 0 0, erW (.fault c i)])) wr := by
  have h := hI.hgo
  rw [tokGo_bad hlt hst] at h
  cases h
  exact ⟨_, rfl, Kd.R_nil _ _ _ _ _, hI.hB⟩
theorem inv_end {s : ByteArray} {w : World} {K : Nat} {toks : List S36} {er : Er} {kq i : Nat} {acc : List S36} {v v' : Value} {wr w' : World} (hI : TokInv s w K toks er (kq + 1) i acc v wr) (hlt : ¬ i < s.size)
    (hR : Kd.R k36 36 w' w.heap.size (fun _ => True) v' (acc ++ [⟨3, ⟨#[]⟩, (i : Int)⟩])) (hb : Below w.heap.size wr w') : TokPost w toks er (.returned (.tuple #[v', .nilIface])) w' := by
  have h := hI.hgo
  rw [tokGo_end hlt] at h
  cases h
  exact ⟨_, rfl, hR, hI.hB.trans hb⟩
theorem step_sp {s : ByteArray} {i : Nat} (h : isSp (atB s i) = true) : tokStep s i = .skip 1 := by rw [tokStep, if_pos h]
theorem step_comm {s : ByteArray} {i : Nat} (h : isSp (atB s i) = false) (h1 : pre1 s i = true) : tokStep s i = .skip (commAt s i).size := by
  rw [tokStep, if_neg (by rw [h]; simp), if_pos h1]
theorem step_word {s : ByteArray} {i : Nat} (h : isSp (atB s i) = false) (h1 : pre1 s i = false) (h2 : wordB (atB s i) = true) (h3 : okWord s i = true) : tokStep s i = .tok 1 (wordAt s i) := by
  rw [tokStep, if_neg (by rw [h]; simp), if_neg (by rw [h1]; simp), if_pos h2, h3]; rfl
theorem step_name {s : ByteArray} {i : Nat} (h : isSp (atB s i) = false) (h1 : pre1 s i = false) (h2 : wordB (atB s i) = true) (h3 : okWord s i = false) : tokStep s i = .bad 5 := by
  rw [tokStep, if_neg (by rw [h]; simp), if_neg (by rw [h1]; simp), if_pos h2, h3]; rfl
theorem step_arrow {s : ByteArray} {i : Nat} (h : isSp (atB s i) = false) (h1 : pre1 s i = false) (h2 : wordB (atB s i) = false) (h3 : pre2 s i = true) : tokStep s i = .tok 2 arrow := by
  rw [tokStep, if_neg (by rw [h]; simp), if_neg (by rw [h1]; simp), if_neg (by rw [h2]; simp), if_pos h3]
theorem step_sign {s : ByteArray} {i : Nat} (h : isSp (atB s i) = false) (h1 : pre1 s i = false) (h2 : wordB (atB s i) = false) (h3 : pre2 s i = false) (h4 : isSg (atB s i) = true) : tokStep s i = .tok 2 (oneAt s i) := by
  rw [tokStep, if_neg (by rw [h]; simp), if_neg (by rw [h1]; simp), if_neg (by rw [h2]; simp), if_neg (by rw [h3]; simp), if_pos h4]
theorem step_bad {s : ByteArray} {i : Nat} (h : isSp (atB s i) = false) (h1 : pre1 s i = false) (h2 : wordB (atB s i) = false) (h3 : pre2 s i = false) (h4 : isSg (atB s i) = false) : tokStep s i = .bad 6 := by
  rw [tokStep, if_neg (by rw [h]; simp), if_neg (by rw [h1]; simp), if_neg (by rw [h2]; simp), if_neg (by rw [h3]; simp), if_neg (by rw [h4]; simp)]

set_option maxHeartbeats 4000000 in
set_option maxRecDepth 100000 in
theorem Tokens_any (s : ByteArray) (w : World) (K : Nat) (toks : List S36) (er : Er) (hs : s.size ≤ 65536) (hL : LaidRes w) (h : tokGo s K 0 [] = some (toks, er)) :
    Calls Tryd.prog 9 #[.string s] w (TokPost w toks er) := by
  have H := Aside0.mk h
  have HL := Aside0.mk hL
  clear h hL
  have hs2 : ¬ (65536 < s.size) := by omega
  go_enter Tryd.func9, Tryd.ntmps9
  go_wp2_with fail
  go_step3
  go_wp2_with fail
  go_step3
  go_wp2_with fail
  go_loopg [7, 8] K (fun kq _ _ wr => ∃ (i : Nat) (acc : List S36) (v : Value), TokInv s w K toks er kq i acc v wr)
  case atStart =>
    refine ⟨0, [], .slice none 0 0, Nat.zero_le _, Nat.le_refl _, H.out, Nat.le_refl _, ?_, ?_, Kd.R_nil _ _ _ _ _, ?_⟩
    · show _ = _
      rw [Below.heap_alloc _ _ _ (by simp)]
      exact blk_new w _
    · have h1 := blk_new (w.alloc (.cells #[.slice none 0 0] 23)) (.cells #[.int .i64 0] 3)
      simpa using h1
    · exact ((Below.refl _ _).alloc (Nat.le_refl _) _).alloc (by simp) _
  case round =>
    obtain ⟨i, acc, v, hI⟩ := hrel
    have HI := Aside0.mk hI
    clear hI
    cases gk with
    | zero => exact absurd HI.out.hgo (by simp [tokGo])
    | succ k1 =>
      have c4 : wr.cell? ⟨w.heap.size, 0, none⟩ = some v := blk_cell HI.out.h4 0
      have c5 : wr.cell? ⟨w.heap.size + 1, 0, none⟩ = some (.int .i64 (i : Int)) := blk_cell HI.out.h5 0
      have f4 : wr.frozen? ⟨w.heap.size, 0, none⟩ = false := blk_frozen HI.out.h4 0
      have f5 : wr.frozen? ⟨w.heap.size + 1, 0, none⟩ = false := blk_frozen HI.out.h5 0
      have hile := HI.out.hi
      by_cases hlt : i < s.size
      · go_wp2_with fail
        refine (run_word _ _ (by rw [extract_size]; omega)).mono ?_
        rintro e1 w1 ⟨hr, rfl⟩
        have hr2 : e1 = .returned (.string (wordAt s i)) := by rw [wordAt_def]; exact hr
        clear hr
        subst hr2
        cases hsp : isSp (atB s i) with
        | true =>
          have HSP := Aside0.mk hsp
          have t1 := sp_yes hlt hsp
          clear hsp
          go_wp2_with fail
          refine (IndexByte_ _ _ _).mono ?_
          rintro e2 w2 ⟨rfl, rfl⟩
          go_wp2_with fail
          go_roundg k1
          case measure => omega
          case rel => exact ⟨i + 1, acc, v, inv_skip HI.out hlt (step_sp HSP.out) (Below.refl _ _) (by go_num)⟩
        | false =>
          have HSP := Aside0.mk hsp
          have t1 := sp_no hlt hsp
          clear hsp
          go_wp2_with fail
          refine (IndexByte_ _ _ _).mono ?_
          rintro e2 w2 ⟨rfl, rfl⟩
          go_wp2_with fail
          refine (HasPrefix_ _ _ _).mono ?_
          rintro e3 w3 ⟨hr, rfl⟩
          have hr2 : e3 = .returned (.bool (pre1 s i)) := by rw [pre1_def]; exact hr
          clear hr
          subst hr2
          cases hp1 : pre1 s i with
          | true =>
            have HP1 := Aside0.mk hp1
            clear hp1
            go_wp2_with fail
            have hcm : i + (commAt s i).size ≤ s.size := fit_max hlt (commAt_size s i).2
            have hwr : IntKind.i64.wrap ((i : Int) + ((commAt s i).size : Int)) = (i : Int) + ((commAt s i).size : Int) := IntWalk.i64_in _ (by omega)
            go_region_with (go_at_call 21; refine (run_nl _ _ (by rw [extract_size]; omega)).mono ?_; rintro e4 w4 ⟨hr, rfl⟩; have hr2 : e4 = .returned (.string (commAt s i)) := (by rw [commAt_def]; exact hr); clear hr; subst hr2)
            all_goals clear hwr
            all_goals go_wp2_with fail
            all_goals go_roundg k1
            case measure => omega
            case rel => exact ⟨i + (commAt s i).size, acc, v, inv_skip HI.out hlt (step_comm HSP.out HP1.out) (below_drew1 (Below.refl _ _)) (by go_num)⟩
            case measure => omega
            case rel => exact ⟨i + (commAt s i).size, acc, v, inv_skip HI.out hlt (step_comm HSP.out HP1.out) (below_drew1 (Below.refl _ _)) (by go_num)⟩
          | false =>
            have HP1 := Aside0.mk hp1
            clear hp1
            cases hwd : wordB (atB s i) with
            | true =>
              have HWD := Aside0.mk hwd
              have t2 := word_ne hlt hwd
              have t2b : (wordAt s i).toList.isEmpty = false := by simpa using t2
              have t3 := word_small hs hlt hwd
              clear hwd
              have hLr : LaidRes wr := HL.out.below HI.out.hB
              have HLR := Aside0.mk hLr
              clear hLr
              go_wp2_with fail
              refine (Is_any _ _ t3 HLR.out).mono ?_
              rintro e4 w4 ⟨rfl, rfl⟩
              cases hIs : isB (wordAt s i).data.toList with
              | true =>
                have hst := step_word HSP.out HP1.out HWD.out (by unfold okWord; rw [hIs]; rfl)
                have hfit := (word_fit hlt HWD.out).2
                have HST := Aside0.mk hst
                clear hst
                go_wp2_with fail
                refine (add_any 1 (wordAt s i) _ _ w.heap.size v acc i wr HI.out.h4 HI.out.h5 HI.out.hR (Nat.le_refl _) (by omega) (by have := HI.out.hacc; omega) (by omega) HI.out.hB.size).mono ?_
                rintro e6 w6 ⟨rfl, hadd⟩
                have HADD := Aside0.mk hadd
                clear hadd c4 c5 f4 f5
                go_wp2_with fail
                go_roundg k1
                case measure => omega
                case rel => exact ⟨i + (wordAt s i).size, _, inv_tok HI.out hlt HST.out HADD.out⟩
              | false =>
                go_wp2_with fail
                refine (Reserved_any _ _ HLR.out).mono ?_
                rintro e5 w5 ⟨rfl, rfl⟩
                cases hRs : resB (wordAt s i).data.toList with
                | true =>
                  have hst := step_word HSP.out HP1.out HWD.out (by unfold okWord; rw [hIs, hRs]; rfl)
                  have hfit := (word_fit hlt HWD.out).2
                  have HST := Aside0.mk hst
                  clear hst
                  go_wp2_with fail
                  refine (add_any 1 (wordAt s i) _ _ w.heap.size v acc i wr HI.out.h4 HI.out.h5 HI.out.hR (Nat.le_refl _) (by omega) (by have := HI.out.hacc; omega) (by omega) HI.out.hB.size).mono ?_
                  rintro e6 w6 ⟨rfl, hadd⟩
                  have HADD := Aside0.mk hadd
                  clear hadd c4 c5 f4 f5
                  go_wp2_with fail
                  go_roundg k1
                  case measure => omega
                  case rel => exact ⟨i + (wordAt s i).size, _, inv_tok HI.out hlt HST.out HADD.out⟩
                | false =>
                  have hst := step_name HSP.out HP1.out HWD.out (by unfold okWord; rw [hIs, hRs]; rfl)
                  have HST := Aside0.mk hst
                  clear hst
                  go_wp2_with fail
                  refine (fault_New _ _ _).mono ?_
                  rintro e6 w6 ⟨rfl, rfl⟩
                  go_wp2_with fail
                  go_ret2
                  exact inv_bad HI.out hlt HST.out
            | false =>
              have HWD := Aside0.mk hwd
              have t2 := word_nil hlt hwd
              clear hwd
              go_wp2_with fail
              refine (HasPrefix_ _ _ _).mono ?_
              rintro e4 w4 ⟨hr, rfl⟩
              have hr2 : e4 = .returned (.bool (pre2 s i)) := by rw [pre2_def]; exact hr
              clear hr
              subst hr2
              cases hp2 : pre2 s i with
              | true =>
                have hst := step_arrow HSP.out HP1.out HWD.out hp2
                have HST := Aside0.mk hst
                rw [pre2_def] at hp2
                have hfit := pre_size hp2
                clear hst hp2
                go_wp2_with fail
                refine (add_any 2 arrow _ _ w.heap.size v acc i wr HI.out.h4 HI.out.h5 HI.out.hR (Nat.le_refl _) (by omega) (by have := HI.out.hacc; omega) (by have : arrow.size = 2 := rfl; omega) HI.out.hB.size).mono ?_
                rintro e6 w6 ⟨rfl, hadd⟩
                have HADD := Aside0.mk hadd
                clear hadd c4 c5 f4 f5
                go_wp2_with fail
                go_roundg k1
                case measure => omega
                case rel => exact ⟨i + arrow.size, _, inv_tok HI.out hlt HST.out HADD.out⟩
              | false =>
                have HP2 := Aside0.mk hp2
                clear hp2
                cases hsg : isSg (atB s i) with
                | true =>
                  have hst := step_sign HSP.out HP1.out HWD.out HP2.out hsg
                  have HST := Aside0.mk hst
                  have t5 := sg_yes hlt hsg
                  clear hst hsg
                  go_wp2_with fail
                  refine (IndexByte_ _ _ _).mono ?_
                  rintro e5 w5 ⟨rfl, rfl⟩
                  go_wp2_with fail
                  rw [← oneAt_def]
                  refine (add_any 2 (oneAt s i) _ _ w.heap.size v acc i wr HI.out.h4 HI.out.h5 HI.out.hR (Nat.le_refl _) (by omega) (by have := HI.out.hacc; omega) (by rw [oneAt_size s i hlt]; omega) HI.out.hB.size).mono ?_
                  rintro e6 w6 ⟨rfl, hadd⟩
                  have HADD := Aside0.mk hadd
                  clear hadd c4 c5 f4 f5
                  go_wp2_with fail
                  go_roundg k1
                  case measure => omega
                  case rel => exact ⟨i + (oneAt s i).size, _, inv_tok HI.out hlt HST.out HADD.out⟩
                | false =>
                  have hst := step_bad HSP.out HP1.out HWD.out HP2.out hsg
                  have HST := Aside0.mk hst
                  have t5 := sg_no hlt hsg
                  clear hst hsg
                  go_wp2_with fail
                  refine (IndexByte_ _ _ _).mono ?_
                  rintro e5 w5 ⟨rfl, rfl⟩
                  go_wp2_with fail
                  refine (fault_New _ _ _).mono ?_
                  rintro e6 w6 ⟨rfl, rfl⟩
                  go_wp2_with fail
                  go_ret2
                  exact inv_bad HI.out hlt HST.out
      · go_wp2_with fail
        have hie : i = s.size := by omega
        have HIE := Aside0.mk hie
        clear hie
        refine (add_any 3 ⟨#[]⟩ _ _ w.heap.size v acc i wr HI.out.h4 HI.out.h5 HI.out.hR (Nat.le_refl _) (by omega) (by have := HI.out.hacc; omega) (by have : (⟨#[]⟩ : ByteArray).size = 0 := rfl; omega) HI.out.hB.size).mono ?_
        rintro e6 w6 ⟨rfl, hadd⟩
        obtain ⟨v', a4, a5, aR, aB⟩ := hadd
        have A4 := Aside0.mk a4
        have AR := Aside0.mk aR
        have AB := Aside0.mk aB
        have d4 : w6.cell? ⟨w.heap.size, 0, none⟩ = some v' := blk_cell a4 0
        clear a4 a5 aR aB c4 c5 f4 f5
        obtain ⟨A1, n1, rfl⟩ := Kd.R_slice AR.out
        go_wp2_with fail
        go_ret2
        exact inv_end HI.out hlt (by have h := AR.out; rw [List.length_append] at h; exact h) AB.out
end Go.Proofs.YtepfgckaapmeoaaDoor
