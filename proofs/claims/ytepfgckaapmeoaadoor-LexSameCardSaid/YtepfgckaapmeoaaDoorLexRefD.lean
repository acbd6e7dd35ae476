/-
  The reference's Tokens, as printed, answers what the plain function of the implementation's tokens says.
-/
import Derived.Test.YtepfgckaapmeoaaDoorLexRefC
namespace Go.Proofs.YtepfgckaapmeoaaDoor
open Go.RowKit Go.Proofs.YtepfgckaapmeoaaDoorW.PrintWords Go.Proofs.YtepfgckaapmeoaaDoorW.PrintLast Go.Proofs.YtepfgckaapmeoaaDoorW.PrintMore Go.Proofs.YtepfgckaapmeoaaDoor.PRef
set_option linter.unusedVariables false

theorem in_step {β : Type} {s : ByteArray} {c : UInt8} (hs : s.size ≤ 1000) {f : Nat → Bool → Option β} {r : β} {b : Bool} (hb : inB s c = b) (h : Ev (fun k => f k b) r) : Ev (fun k => (vestryref09_in.f k s (c.toNat : Int)).bind (f k)) r := by
  refine Ev.bind (f := f) (in_ev s c hs) ?_
  rw [hb]; exact h
/-- The whole word is cut. -/
theorem to_j2 {s : ByteArray} (hs : s.size ≤ 65536) {i : Nat} {acc : List S37} {r : List S37 × Int × Int} (hi : i < s.size)
    (h : Ev (fun k => vestryref09_Tokens.j2 k s lettersB (i : Int) (bt s (i : Int)) ((i + (wordAt s i).size : Nat) : Int) acc 0 0) r) : Ev (T0 s i acc) r := by
  rw [(wordAt_size s i).1] at h
  have h1 := l1_ev hs (by omega) h (runN wordB (s.extract i s.size)) i (Nat.le_refl _) rfl
  refine Ev.step (fun k => ?_) h1
  unfold T0
  simp only [vestryref09_Tokens.l0]
  rw [if_pos (by omega), if_pos (by omega)]
theorem j2_word {s : ByteArray} (hs : s.size ≤ 65536) {i : Nat} {c : Int} {acc : List S37} {r : List S37 × Int × Int} (hi : i < s.size) (hw : wordB (atB s i) = true) (ha : acc.length ≤ 65536)
    (h : if okWord s i = true then Ev (T0 s (i + (wordAt s i).size) (acc ++ [⟨1, wordAt s i, (i : Int)⟩])) r else r = ([], 5, (i : Int))) :
    Ev (fun k => vestryref09_Tokens.j2 k s lettersB (i : Int) c ((i + (wordAt s i).size : Nat) : Int) acc 0 0) r := by
  have hf := word_fit hi hw
  have hext := wordAt_ext s i
  generalize hn : (wordAt s i).size = n at *
  have hi1 := is_ev (wordAt s i)
  have hok : okWord s i = (isB (wordAt s i).data.toList || resB (wordAt s i).data.toList) := rfl
  have good : okWord s i = true → Ev (fun k => if acc.length < 4398046511104 then vestryref09_Tokens.l0 k s lettersB ((i + n : Nat) : Int) (acc ++ [(⟨1, wordAt s i, (i : Int)⟩ : S37)]) 0 0 else none) r := fun ho => by
    rw [if_pos ho] at h
    exact Ev.congr (fun k => if_pos (by omega)) h
  refine Ev.step (f := fun k => (vestryref08_Is.f k (wordAt s i)).bind fun t => if t = true then (if acc.length < 4398046511104 then vestryref09_Tokens.l0 k s lettersB ((i + n : Nat) : Int) (acc ++ [(⟨1, wordAt s i, (i : Int)⟩ : S37)]) 0 0 else none) else (vestryref08_Reserved.f (wordAt s i)).bind fun u => if u = true then (if acc.length < 4398046511104 then vestryref09_Tokens.l0 k s lettersB ((i + n : Nat) : Int) (acc ++ [(⟨1, wordAt s i, (i : Int)⟩ : S37)]) 0 0 else none) else some ([], 5, (i : Int))) (fun k => ?_) ?_
  · simp only [vestryref09_Tokens.j2]
    rw [if_pos (by omega), if_pos (by omega), if_pos (by omega), if_pos (by omega), Int.toNat_natCast, Int.toNat_natCast, hext]
  · refine Ev.bind (f := fun k t => if t = true then (if acc.length < 4398046511104 then vestryref09_Tokens.l0 k s lettersB ((i + n : Nat) : Int) (acc ++ [(⟨1, wordAt s i, (i : Int)⟩ : S37)]) 0 0 else none) else (vestryref08_Reserved.f (wordAt s i)).bind fun u => if u = true then (if acc.length < 4398046511104 then vestryref09_Tokens.l0 k s lettersB ((i + n : Nat) : Int) (acc ++ [(⟨1, wordAt s i, (i : Int)⟩ : S37)]) 0 0 else none) else some ([], 5, (i : Int))) hi1 ?_
    rw [reserved_f]
    cases h1 : isB (wordAt s i).data.toList with
    | true => exact Ev.congr (fun k => if_pos rfl) (good (by rw [hok, h1]; rfl))
    | false =>
      cases h2 : resB (wordAt s i).data.toList with
      | true => exact Ev.congr (fun k => by rw [if_neg (by simp), Option.bind_some, if_pos rfl]) (good (by rw [hok, h1, h2]; rfl))
      | false =>
        rw [if_neg (by rw [hok, h1, h2]; simp)] at h
        rw [h]
        exact Ev.congr (f := fun _ => some ([], 5, (i : Int))) (fun k => by rw [if_neg (by simp), Option.bind_some, if_neg (by simp)]) (Ev.now _)
theorem j2_space {s : ByteArray} (hs : s.size ≤ 65536) {i : Nat} {acc : List S37} {r : List S37 × Int × Int} (hi : i < s.size) (hw : wordB (atB s i) = false) (hsp : isSp (atB s i) = true)
    (h : Ev (T0 s (i + 1) acc) r) : Ev (fun k => vestryref09_Tokens.j2 k s lettersB (i : Int) (bt s (i : Int)) ((i + (wordAt s i).size : Nat) : Int) acc 0 0) r := by
  have h0 : (wordAt s i).size = 0 := by
    have : ¬ 0 < (wordAt s i).size := fun h0 => by rw [(word_pos hi).1 h0] at hw; cases hw
    omega
  rw [h0]
  refine Ev.step (fun k => ?_) (in_step (s := ⟨#[32, 9, 10, 13]⟩) (c := atB s i) (by decide) (f := fun k t => if t = true then vestryref09_Tokens.l0 k s lettersB (wrap64 ((i : Int) + 1)) acc 0 0 else (if (wrap64 ((i : Int) + 1)) < (s.size : Int) then (if 0 ≤ (wrap64 ((i : Int) + 1)) then (vestryref09_Tokens.j3 k s lettersB (i : Int) (bt s (i : Int)) (bt s (wrap64 ((i : Int) + 1))) acc 0 0) else (none)) else (vestryref09_Tokens.j3 k s lettersB (i : Int) (bt s (i : Int)) 0 acc 0 0))) (b := true) ((spaces_in _).trans hsp) ?_)
  · simp only [vestryref09_Tokens.j2]
    rw [if_pos (by omega), if_pos (by omega), if_pos (by omega), if_neg (by omega), bt_atB s i hi]
  · refine Ev.congr (fun k => ?_) h
    rw [if_pos rfl, wrap_ok _ (by omega)]
    rfl
theorem j2_other {s : ByteArray} (hs : s.size ≤ 65536) {i : Nat} {acc : List S37} {r : List S37 × Int × Int} (hi : i < s.size) (hw : wordB (atB s i) = false) (hsp : isSp (atB s i) = false)
    (h : Ev (fun k => vestryref09_Tokens.j3 k s lettersB (i : Int) (bt s (i : Int)) (nextC s i) acc 0 0) r) : Ev (fun k => vestryref09_Tokens.j2 k s lettersB (i : Int) (bt s (i : Int)) ((i + (wordAt s i).size : Nat) : Int) acc 0 0) r := by
  have h0 : (wordAt s i).size = 0 := by
    have : ¬ 0 < (wordAt s i).size := fun h0 => by rw [(word_pos hi).1 h0] at hw; cases hw
    omega
  rw [h0]
  refine Ev.step (fun k => ?_) (in_step (s := ⟨#[32, 9, 10, 13]⟩) (c := atB s i) (by decide) (f := fun k t => if t = true then vestryref09_Tokens.l0 k s lettersB (wrap64 ((i : Int) + 1)) acc 0 0 else (if (wrap64 ((i : Int) + 1)) < (s.size : Int) then (if 0 ≤ (wrap64 ((i : Int) + 1)) then (vestryref09_Tokens.j3 k s lettersB (i : Int) (bt s (i : Int)) (bt s (wrap64 ((i : Int) + 1))) acc 0 0) else (none)) else (vestryref09_Tokens.j3 k s lettersB (i : Int) (bt s (i : Int)) 0 acc 0 0))) (b := false) ((spaces_in _).trans hsp) ?_)
  · simp only [vestryref09_Tokens.j2]
    rw [if_pos (by omega), if_pos (by omega), if_pos (by omega), if_neg (by omega), bt_atB s i hi]
  · refine Ev.congr (fun k => ?_) h
    rw [if_neg (by simp), wrap_ok _ (by omega)]
    unfold nextC
    by_cases h1 : i + 1 < s.size
    · rw [if_pos h1, if_pos (by omega), if_pos (by omega)]; rfl
    · rw [if_neg h1, if_neg (by omega)]
theorem j3_j4 {s : ByteArray} {i : Nat} {acc : List S37} {r : List S37 × Int × Int} (hi : i < s.size)
    (h : Ev (fun k => vestryref09_Tokens.j4 k s lettersB (i : Int) (bt s (i : Int)) (nextC s i) (pre1 s i) acc 0 0) r) : Ev (fun k => vestryref09_Tokens.j3 k s lettersB (i : Int) (bt s (i : Int)) (nextC s i) acc 0 0) r := by
  refine Ev.step (fun k => ?_) h
  simp only [vestryref09_Tokens.j3]
  have hp := pre1_iff hi
  by_cases h1 : bt s (i : Int) = 47
  · rw [if_pos h1]
    congr 1
    rw [Bool.eq_iff_iff, hp]
    simp [h1]
  · rw [if_neg h1]
    congr 1
    rw [Bool.eq_iff_iff, hp]
    simp [h1]
theorem j4_comm {s : ByteArray} (hs : s.size ≤ 65536) {i : Nat} {acc : List S37} {r : List S37 × Int × Int} (hi : i < s.size)
    (h : Ev (T0 s (i + (commAt s i).size) acc) r) : Ev (fun k => vestryref09_Tokens.j4 k s lettersB (i : Int) (bt s (i : Int)) (nextC s i) true acc 0 0) r := by
  rw [(commAt_size s i).1] at h
  refine Ev.step (fun k => ?_) (l2_ev hs (by omega) h (runN notNL (s.extract i s.size)) i (Nat.le_refl _) rfl)
  simp only [vestryref09_Tokens.j4]
  rw [if_pos trivial]
theorem j4_j6 {s : ByteArray} {i : Nat} {acc : List S37} {r : List S37 × Int × Int} (hi : i < s.size)
    (h : Ev (fun k => vestryref09_Tokens.j6 k s lettersB (i : Int) (bt s (i : Int)) (pre2 s i) acc 0 0) r) : Ev (fun k => vestryref09_Tokens.j4 k s lettersB (i : Int) (bt s (i : Int)) (nextC s i) false acc 0 0) r := by
  refine Ev.step (fun k => ?_) h
  simp only [vestryref09_Tokens.j4]
  have hp := pre2_iff hi
  rw [if_neg (by simp)]
  by_cases h1 : bt s (i : Int) = 45
  · rw [if_pos h1]
    congr 1
    rw [Bool.eq_iff_iff, hp]
    simp [h1]
  · rw [if_neg h1]
    congr 1
    rw [Bool.eq_iff_iff, hp]
    simp [h1]
theorem j6_arrow {s : ByteArray} (hs : s.size ≤ 65536) {i : Nat} {acc : List S37} {r : List S37 × Int × Int} (hi : i < s.size) (ha : acc.length ≤ 65536)
    (h : Ev (T0 s (i + arrow.size) (acc ++ [⟨2, arrow, (i : Int)⟩])) r) : Ev (fun k => vestryref09_Tokens.j6 k s lettersB (i : Int) (bt s (i : Int)) true acc 0 0) r := by
  refine Ev.step (fun k => ?_) h
  simp only [vestryref09_Tokens.j6]
  rw [if_pos trivial, if_pos (by omega), wrap_ok _ (by omega)]
  rfl
theorem j6_sign {s : ByteArray} (hs : s.size ≤ 65536) {i : Nat} {acc : List S37} {r : List S37 × Int × Int} (hi : i < s.size) (ha : acc.length ≤ 65536)
    (h : if isSg (atB s i) = true then Ev (T0 s (i + (oneAt s i).size) (acc ++ [⟨2, oneAt s i, (i : Int)⟩])) r else r = ([], 6, (i : Int))) : Ev (fun k => vestryref09_Tokens.j6 k s lettersB (i : Int) (bt s (i : Int)) false acc 0 0) r := by
  refine Ev.step (fun k => ?_) (in_step (s := ⟨#[123, 125, 40, 41, 58, 59, 61, 124, 35, 43, 38, 45]⟩) (c := atB s i) (by decide) (f := fun k t => if t = true then (if 0 ≤ (i : Int) then (if (i : Int) ≤ (wrap64 ((i : Int) + 1)) then (if (wrap64 ((i : Int) + 1)) ≤ (s.size : Int) then (if acc.length < 4398046511104 then (vestryref09_Tokens.l0 k s lettersB (wrap64 ((i : Int) + 1)) (acc ++ [(⟨2, s.extract (i : Int).toNat ((wrap64 ((i : Int) + 1)) : Int).toNat, (i : Int)⟩ : S37)]) 0 0) else (none)) else (none)) else (none)) else (none)) else (some (([] : List (S37)), 6, (i : Int)))) (b := isSg (atB s i)) (signs_in _) ?_)
  · simp only [vestryref09_Tokens.j6]
    rw [if_neg (by simp), bt_atB s i hi]
  · cases hg : isSg (atB s i) with
    | true =>
      rw [if_pos hg, oneAt_size s i hi] at h
      refine Ev.congr (fun k => ?_) h
      have e1 : ((i : Int) + 1).toNat = i + 1 := by omega
      rw [if_pos rfl, wrap_ok _ (by omega), if_pos (by omega), if_pos (by omega), if_pos (by omega), if_pos (by omega), Int.toNat_natCast, e1, oneAt_ext]
      rfl
    | false =>
      rw [if_neg (by rw [hg]; simp)] at h
      rw [h]
      exact Ev.congr (f := fun _ => some (([] : List (S37)), 6, (i : Int))) (fun k => if_neg (by simp)) (Ev.now _)
theorem ref_ev (s : ByteArray) (hs : s.size ≤ 65536) : ∀ (K i : Nat) (acc : List S36) (r : List S36 × Er), tokGo s K i acc = some r → i ≤ s.size → acc.length ≤ i → Ev (T0 s i (acc.map c37)) (outR r)
  | 0, i, acc, r, h, _, _ => by simp [tokGo] at h
  | K + 1, i, acc, r, h, hi, ha => by
    have hal : (acc.map c37).length = acc.length := List.length_map _
    by_cases hlt : i < s.size
    · have ok := tokStep_ok s i hlt
      refine to_j2 hs hlt ?_
      have next : ∀ (kd : Int) (t : ByteArray), tokStep s i = .tok kd t → Ev (T0 s (i + t.size) (acc.map c37 ++ [⟨kd, t, (i : Int)⟩])) (outR r) := fun kd t e => by
        rw [tokGo_tok hlt e] at h
        rw [e] at ok
        cases ok with
        | tok ok =>
          have ih := ref_ev s hs K _ _ r h ok.2 (by rw [List.length_append]; have h1 : [(⟨kd, t, (i : Int)⟩ : S36)].length = 1 := rfl; omega)
          rw [List.map_append] at ih
          exact ih
      have skip : ∀ n, tokStep s i = .skip n → Ev (T0 s (i + n) (acc.map c37)) (outR r) := fun n e => by
        rw [tokGo_skip hlt e] at h
        rw [e] at ok
        cases ok with
        | skip ok => exact ref_ev s hs K _ _ r h ok.2 (by omega)
      have bad : ∀ c, tokStep s i = .bad c → outR r = ([], c, (i : Int)) := fun c e => by
        rw [tokGo_bad hlt e] at h
        cases h
        rfl
      cases hw : wordB (atB s i) with
      | true =>
        have hap := word_apart _ hw
        have hp1 : pre1 s i = false := by
          rw [Bool.eq_false_iff]
          intro h1
          have := ((pre1_iff hlt).1 h1).1
          rw [bt_atB s i hlt] at this
          exact hap.2 this
        refine j2_word hs hlt hw (by rw [hal]; omega) ?_
        cases ho : okWord s i with
        | true => exact next 1 (wordAt s i) (step_word hap.1 hp1 hw ho)
        | false => exact bad 5 (step_name hap.1 hp1 hw ho)
      | false =>
        cases hsp : isSp (atB s i) with
        | true => exact j2_space hs hlt hw hsp (skip 1 (step_sp hsp))
        | false =>
          refine j2_other hs hlt hw hsp (j3_j4 hlt ?_)
          cases hp1 : pre1 s i with
          | true => exact j4_comm hs hlt (skip _ (step_comm hsp hp1))
          | false =>
            refine j4_j6 hlt ?_
            cases hp2 : pre2 s i with
            | true => exact j6_arrow hs hlt (by rw [hal]; omega) (next 2 arrow (step_arrow hsp hp1 hw hp2))
            | false =>
              refine j6_sign hs hlt (by rw [hal]; omega) ?_
              cases hsg : isSg (atB s i) with
              | true => exact next 2 (oneAt s i) (step_sign hsp hp1 hw hp2 hsg)
              | false => exact bad 6 (step_bad hsp hp1 hw hp2 hsg)
    · rw [tokGo_end hlt] at h
      cases h
      refine Ev.step (f := fun _ => some (outR (acc ++ [⟨3, ⟨#[]⟩, (i : Int)⟩], .nil))) (fun k => ?_) (Ev.now _)
      unfold T0
      simp only [vestryref09_Tokens.l0]
      rw [if_neg (by omega), if_pos (by omega)]
      unfold outR
      rw [List.map_append]
      rfl
/-- The reference's Tokens. -/
theorem refTokens (s : ByteArray) (hs : s.size ≤ 65536) (K : Nat) (r : List S36 × Er) (h : tokGo s K 0 [] = some r) : ∃ k, vestryref09_Tokens.f k s = some (outR r) := by
  have h1 := ref_ev s hs K 0 [] r h (Nat.zero_le _) (Nat.le_refl _)
  refine Ev.rounds (g := fun k => vestryref09_Tokens.f k s) (Ev.congr (fun k => ?_) h1)
  unfold vestryref09_Tokens.f T0
  rw [if_neg (by omega)]
  rfl
end Go.Proofs.YtepfgckaapmeoaaDoor
