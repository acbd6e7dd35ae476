/-
  The law LexSame, walked: it returns true. Conditions: the package-level variables errors.errorType and name.reserved read as their initialisers laid them.
-/
import Derived.Test.YtepfgckaapmeoaaDoorLexMatch
import Derived.Test.YtepfgckaapmeoaaDoorLexJoins
namespace Go.Proofs.YtepfgckaapmeoaaDoor
open Go.RowKit Go.Proofs.YtepfgckaapmeoaaDoorW.PrintWords Go.Proofs.YtepfgckaapmeoaaDoorW.PrintLast Go.Proofs.YtepfgckaapmeoaaDoorW.PrintMore Go.Proofs.YtepfgckaapmeoaaDoor.PRef
set_option linter.unusedVariables false

def c36 (t : S37) : S36 := ⟨t.f0, t.f1, t.f2⟩
theorem c37_c36 (l : List S37) : (l.map c36).map c37 = l := by
  rw [List.map_map]
  exact List.map_id _
/-- The bytes of the first texts. -/
def sumT (l : List S37) : Nat := (l.map fun t => t.f1.size).sum
theorem sumT_snoc (l : List S37) (t : S37) : sumT (l ++ [t]) = sumT l + t.f1.size := by
  unfold sumT; simp
theorem sumT_le (l : List S37) (h : ∀ t ∈ l, t.f1.size ≤ 140737488351232) : sumT l ≤ l.length * 140737488351232 := by
  induction l with
  | nil => exact Nat.le_refl _
  | cons x l ih =>
    have h1 := h x (List.mem_cons_self ..)
    have h2 := ih fun t ht => h t (List.mem_cons_of_mem _ ht)
    have e : sumT (x :: l) = x.f1.size + sumT l := rfl
    rw [e, List.length_cons]
    omega
theorem joinR_sum (l : List S37) : (joinR l).length ≤ sumT l + l.length := by
  have e : joinL (l.map c36) = joinR l := by rw [← joinR_c37, c37_c36]
  rw [← e]
  have key : ∀ g : List ByteArray, (Lib.join (g.map (·.data.toList)) [32]).length ≤ (g.map (·.size)).sum + g.length := by
    intro g
    induction g with
    | nil => exact Nat.le_refl _
    | cons x g ih =>
      cases g with
      | nil => simp [Lib.join]
      | cons y g =>
        have e2 : Lib.join ((x :: y :: g).map (·.data.toList)) [32] = x.data.toList ++ 32 :: Lib.join ((y :: g).map (·.data.toList)) [32] := by simp [Lib.join]
        rw [e2, List.length_append, List.length_cons, data_len]
        have e3 : ((x :: y :: g).map (·.size)).sum = x.size + ((y :: g).map (·.size)).sum := rfl
        rw [e3]
        simp only [List.length_cons] at ih ⊢
        omega
  refine Nat.le_trans (key _) ?_
  clear key e
  induction l with
  | nil => exact Nat.le_refl _
  | cons x l ih =>
    have e : sumT (x :: l) = x.f1.size + sumT l := rfl
    rw [e, List.map_cons]
    unfold textsOf at ih ⊢
    rw [List.filter_cons]
    split
    · rw [List.map_cons, List.map_cons, List.length_cons, List.sum_cons, List.length_cons]
      have : (c36 x).f1.size = x.f1.size := rfl
      omega
    · rw [List.length_cons]; omega
/-- The rounds of a loop that copies tokens. -/
structure CopyRel (w : World) (l : List S37) (n0 : Nat) (k : Nat) (v n i : Value) (wr : World) : Prop where
  hk : k ≤ l.length
  hi : i = .int .i64 (k : Int)
  hn : n = .int .i64 ((n0 + sumT (l.take k) : Nat) : Int)
  hR : Kd.R k36 36 wr w.heap.size (fun _ => True) v ((l.take k).map c36)
  hB : Below w.heap.size w wr
theorem copy_next {w : World} {l : List S37} {n0 k : Nat} {v : Value} {wr : World} {tk : S37} {m m2 : Int} (h : k < l.length) (ht : l.take (k + 1) = l.take k ++ [tk])
    (hm : m = ((n0 + (sumT (l.take k) + tk.f1.size) : Nat) : Int)) (hm2 : m2 = (k : Int) + 1) (hR : Kd.R k36 36 wr w.heap.size (fun _ => True) v ((l.take k).map c36 ++ [c36 tk])) (hB : Below w.heap.size w wr) : CopyRel w l n0 (k + 1) v (.int .i64 m) (.int .i64 m2) wr :=
  ⟨h, by rw [hm2]; rfl, by rw [hm, ht, sumT_snoc], by rw [ht, List.map_append]; exact hR, hB⟩
theorem sameR_c36 (a b : List S37) : sameL (a.map c36) (b.map c36) = sameR a b := by rw [← sameR_c37, c37_c36, c37_c36]
theorem joinL_c36 (a : List S37) : joinL (a.map c36) = joinR a := by rw [← joinR_c37, c37_c36]
set_option maxHeartbeats 4000000 in
set_option maxRecDepth 100000 in
theorem LexSame_any (A : Option Addr) (ca : Nat) (a : List S37) (B : Option Addr) (cb : Nat) (b : List S37) (w : World) (hca : Kd.C k37 w A a.length a) (hcb : Kd.C k37 w B b.length b) (hla : a.length ≤ ca) (hlb : b.length ≤ cb)
    (hza : ∀ t ∈ a, t.f1.size ≤ 140737488351232) (hzb : ∀ t ∈ b, t.f1.size ≤ 140737488351232) (hE : LaidErr w) (hR : LaidRes w) : Calls Tryd.prog 5 #[.slice A a.length ca, .slice B b.length cb] w (BoolPost w true) := by
  have HE := Lib.hid hE
  have HRs := Lib.hid hR
  have HCA := Lib.hid hca
  have HCB := Lib.hid hcb
  have HLA := Lib.hid hla
  have HLB := Lib.hid hlb
  have HZA := Lib.hid hza
  have HZB := Lib.hid hzb
  clear hE hR hca hcb hla hlb hza hzb
  by_cases hbig : 50 < a.length ∨ 50 < b.length
  · by_cases h1 : (50 : Int) < a.length
    · clear hbig
      go_enter Tryd.func5, Tryd.ntmps5
      go_wp2_with fail
      refine (awake_any w HE.out HRs.out).mono ?_
      rintro e1 w1 ⟨rfl, hb1⟩
      have HB1 := Lib.hid hb1
      clear hb1
      go_wp2_with fail
      refine (awake_any w1 (HE.out.below HB1.out) (HRs.out.below HB1.out)).mono ?_
      rintro e2 w2 ⟨rfl, hb2⟩
      have HB2 := Lib.hid hb2
      clear hb2
      go_wp2_with fail
      go_ret
      exact ⟨rfl, below_chain HB1.out HB2.out⟩
    · have h2 : (50 : Int) < b.length := by omega
      clear hbig
      go_enter Tryd.func5, Tryd.ntmps5
      go_wp2_with fail
      refine (awake_any w HE.out HRs.out).mono ?_
      rintro e1 w1 ⟨rfl, hb1⟩
      have HB1 := Lib.hid hb1
      clear hb1
      go_wp2_with fail
      refine (awake_any w1 (HE.out.below HB1.out) (HRs.out.below HB1.out)).mono ?_
      rintro e2 w2 ⟨rfl, hb2⟩
      have HB2 := Lib.hid hb2
      clear hb2
      go_wp2_with fail
      go_ret
      exact ⟨rfl, below_chain HB1.out HB2.out⟩
  · have h1 : ¬ (50 : Int) < a.length := by omega
    have h2 : ¬ (50 : Int) < b.length := by omega
    clear hbig
    go_enter Tryd.func5, Tryd.ntmps5
    go_wp2_with fail
    refine (awake_any w HE.out HRs.out).mono ?_
    rintro e1 w1 ⟨rfl, hb1⟩
    have HB1 := Lib.hid hb1
    clear hb1
    go_wp2_with fail
    go_loopw [5, 7, 8] (fun v n i wr => ∃ k : Nat, CopyRel w1 a 0 k v n i wr) (fun _ _ i _ => a.length - (intOf i).toNat)
    case atStart => exact ⟨0, Nat.zero_le _, rfl, rfl, Kd.R_nil _ _ _ _ _, Below.refl _ _⟩
    case round =>
      obtain ⟨k, hI⟩ := hrel
      obtain ⟨hk, rfl, rfl, hR, hB⟩ := hI
      have HR := Lib.hid hR
      have HB := Lib.hid hB
      clear hR hB
      by_cases hlt : k < a.length
      · obtain ⟨ad, e, q0, q1, q2⟩ := at_T37 HCA.out (k : Int) (by omega) (by omega)
        cases e
        rw [Int.toNat_natCast] at q0 q1 q2
        have hbs := HB.out.size
        have P1 := Lib.hid (cell_keep q1 HB1.out)
        replace q0 := cell_keep (cell_keep q0 HB1.out) HB.out
        replace q1 := cell_keep P1.out HB.out
        replace q2 := cell_keep (cell_keep q2 HB1.out) HB.out
        have hts : a.take (k + 1) = a.take k ++ [rd_T37 a (k : Int)] := by rw [rd37 a k hlt, List.take_succ_eq_append_getElem hlt]
        have HTS := Lib.hid hts
        have hlen : (a.take (k + 1)).length ≤ 50 := by rw [List.length_take]; omega
        have hle := Nat.le_trans (sumT_le (a.take (k + 1)) (fun t h => HZA.out t (List.mem_of_mem_take h))) (Nat.mul_le_mul_right 140737488351232 hlen)
        rw [hts, sumT_snoc] at hle
        have hll : ((a.take k).map c36).length ≤ 50 := by rw [List.length_map, List.length_take]; omega
        clear hts hlen
        generalize rd_T37 a (k : Int) = tk at *
        go_wp2_with ((with_reducible refine gate_builtin (b := .append) (xs := #[.tmp 29, .tmp 34]) rfl ?_); at_builtin; refine Kd.R_append k36 (w0 := w1) w1.heap.size rfl (.tmp 29) (.tmp 34) 23 36 (.agg #[(.int .i64 0), (.string ⟨#[]⟩), (.int .i64 0)]) 32 rfl Tryd.underlying23 infoTok rfl (by decide) (by omega) u5 ((a.take k).map c36) (c36 tk) [.int .i64 tk.f0, .string tk.f1, .int .i64 tk.f2] (fun _ => True) (fun _ => False) rfl rfl (k36_mkM _ _ _ (c36 tk)) (fun _ hk => hk.elim) (fun _ _ => trivial) HR.out HB.out hbs (by omega) ?_; intro v1 w2 ho hb hg hat; have ho1 := Lib.hid ho; have hb1 := Lib.hid hb; clear q0 q2; replace q1 := cell_keep P1.out hb; clear hat hg ho hb)
        go_roundw
        case rel => exact ⟨k + 1, copy_next hlt HTS.out (by rw [Nat.zero_add]; rfl) rfl ho1.out hb1.out⟩
        case measure => simp [intOf]; omega
      · have hka : a.take k = a := List.take_of_length_le (by omega)
        rw [hka] at HR ⊢
        have hsa := Nat.le_trans (sumT_le a HZA.out) (Nat.mul_le_mul_right 140737488351232 (by omega : a.length ≤ 50))
        have HSA := Lib.hid hsa
        generalize hn0 : sumT a = n0 at *
        have HN0 := Lib.hid hn0
        have HK := Lib.hid hk
        clear hka hsa hn0
        rw [Nat.zero_add]
        obtain ⟨A5, c5, e5, hc5, hC5⟩ := Kd.R_reads HR.out
        rw [List.length_map] at e5 hc5 hC5
        subst e5
        have HC5 := Lib.hid hC5
        have HCC5 := Lib.hid hc5
        clear hC5 hc5
        go_wp2_with fail
        clear hk hlt
        obtain ⟨wA, rfl⟩ : ∃ x, x = wr := ⟨wr, rfl⟩
        go_loopw [6, 7, 9] (fun v n i wq => ∃ k : Nat, CopyRel wA b n0 k v n i wq) (fun _ _ i _ => b.length - (intOf i).toNat)
        case atStart => exact ⟨0, Nat.zero_le _, rfl, rfl, Kd.R_nil _ _ _ _ _, Below.refl _ _⟩
        case round =>
          obtain ⟨k2, hI⟩ := hrel
          obtain ⟨hk2, rfl, rfl, hR2, hB2⟩ := hI
          have HR2 := Lib.hid hR2
          have HB2 := Lib.hid hB2
          clear hR2 hB2
          by_cases hlt : k2 < b.length
          · obtain ⟨bd, e, q0, q1, q2⟩ := at_T37 HCB.out (k2 : Int) (by omega) (by omega)
            cases e
            rw [Int.toNat_natCast] at q0 q1 q2
            have hbs := HB2.out.size
            have P1 := Lib.hid (cell_keep (cell_keep q1 HB1.out) HB.out)
            replace q0 := cell_keep (cell_keep (cell_keep q0 HB1.out) HB.out) HB2.out
            replace q1 := cell_keep P1.out HB2.out
            replace q2 := cell_keep (cell_keep (cell_keep q2 HB1.out) HB.out) HB2.out
            have hts : b.take (k2 + 1) = b.take k2 ++ [rd_T37 b (k2 : Int)] := by rw [rd37 b k2 hlt, List.take_succ_eq_append_getElem hlt]
            have HTS := Lib.hid hts
            have hlen : (b.take (k2 + 1)).length ≤ 50 := by rw [List.length_take]; omega
            have hle := Nat.le_trans (sumT_le (b.take (k2 + 1)) (fun t h => HZB.out t (List.mem_of_mem_take h))) (Nat.mul_le_mul_right 140737488351232 hlen)
            rw [hts, sumT_snoc] at hle
            have hsa := HSA.out
            have hll : ((b.take k2).map c36).length ≤ 50 := by rw [List.length_map, List.length_take]; omega
            clear hts hlen
            generalize rd_T37 b (k2 : Int) = tk at *
            go_wp2_with ((with_reducible refine gate_builtin (b := .append) (xs := #[.tmp 50, .tmp 55]) rfl ?_); at_builtin; refine Kd.R_append k36 (w0 := wA) wA.heap.size rfl (.tmp 50) (.tmp 55) 23 36 (.agg #[(.int .i64 0), (.string ⟨#[]⟩), (.int .i64 0)]) 32 rfl Tryd.underlying23 infoTok rfl (by decide) (by omega) u6 ((b.take k2).map c36) (c36 tk) [.int .i64 tk.f0, .string tk.f1, .int .i64 tk.f2] (fun _ => True) (fun _ => False) rfl rfl (k36_mkM _ _ _ (c36 tk)) (fun _ hk => hk.elim) (fun _ _ => trivial) HR2.out HB2.out hbs (by omega) ?_; intro v1 w2 ho hb hg hat; have ho1 := Lib.hid ho; have hb1 := Lib.hid hb; clear q0 q2; replace q1 := cell_keep P1.out hb; clear hat hg ho hb)
            go_roundw
            case rel => exact ⟨k2 + 1, copy_next hlt HTS.out (by rw [Int.natCast_add, Int.natCast_add]; omega) rfl ho1.out hb1.out⟩
            case measure => simp [intOf]; omega
          · have hkb : b.take k2 = b := List.take_of_length_le (by omega)
            rw [hkb] at HR2 ⊢
            clear hkb
            obtain ⟨A6, c6, e6, hc6, hC6⟩ := Kd.R_reads HR2.out
            rw [List.length_map] at e6 hc6 hC6
            subst e6
            have HC6 := Lib.hid hC6
            have HCC6 := Lib.hid hc6
            clear hC6 hc6
            have HC5b := Lib.hid (Kd.C_below HC5.out HB2.out)
            by_cases hn : (5000 : Int) < (n0 : Int) + (sumT b : Int)
            · go_wp2_with fail
              go_ret
              exact ⟨rfl, below_chain HB1.out (below_chain HB.out HB2.out)⟩
            · have hn0 := HN0.out
              have hjr := joinR_sum a
              obtain ⟨k4, hk4⟩ := refSame a b (by omega)
              obtain ⟨k5, hk5⟩ := refJoin a (by omega) (by omega)
              have hsame : ∀ W, Below w.heap.size w W → Kd.C k36 W A5 a.length (a.map c36) → Kd.C k36 W A6 b.length (b.map c36) → Calls Tryd.prog 16 #[.slice A5 a.length c5, .slice A6 b.length c6] W (BoolPost W (sameR a b)) := fun W _ h5 h6 => by
                have h := Same_any A5 c5 (a.map c36) A6 c6 (b.map c36) W (by rw [List.length_map]; exact h5) (by rw [List.length_map]; exact h6) (by rw [List.length_map]; omega)
                rw [List.length_map, List.length_map] at h
                refine h.mono fun e w' ⟨he, hb⟩ => ?_
                rw [sameR_c36] at he
                exact ⟨he, hb⟩
              have hjoin : ∀ W, Kd.C k36 W A5 a.length (a.map c36) → Calls Tryd.prog 14 #[.slice A5 a.length c5] W fun e w' => e = .returned (.string ⟨(joinR a).toArray⟩) ∧ Below W.heap.size W w' := fun W h5 => by
                have h := Join_any A5 c5 (a.map c36) W (by rw [List.length_map]; exact h5) (by rw [List.length_map]; exact HCC5.out) (by rw [List.length_map]; omega) (by rw [joinL_c36]; omega)
                rw [List.length_map] at h
                refine h.mono fun e w' ⟨he, hb⟩ => ?_
                rw [joinL_c36] at he
                exact ⟨he, hb⟩
              have HSame := Lib.hid hsame
              have HJoin := Lib.hid hjoin
              have HK4 := Lib.hid hk4
              have HK5 := Lib.hid hk5
              have HB0 := Lib.hid (below_chain HB1.out (below_chain HB.out HB2.out))
              clear hsame hjoin hk4 hk5 hjr hn0
              generalize sameR a b = sb at *
              generalize (⟨(joinR a).toArray⟩ : ByteArray) = T at *
              go_wp2_with fail
              refine (HSame.out wr HB0.out HC5b.out HC6.out).mono ?_
              rintro e7 w7 ⟨rfl, hb7⟩
              have HB7 := Lib.hid (below_chain HB0.out hb7)
              have HC7 := Lib.hid (Kd.C_below HC5b.out hb7)
              clear hb7
              go_wp2_with fail
              refine (ref_same_any k4 A ca a B cb b sb w7 (Kd.C_below HCA.out HB7.out) HLA.out (Kd.C_below HCB.out HB7.out) HLB.out HK4.out).mono ?_
              rintro e8 w8 ⟨rfl, hb8⟩
              have HB8 := Lib.hid (below_chain HB7.out hb8)
              have HC8 := Lib.hid (Kd.C_below HC7.out hb8)
              clear hb8
              go_wp2_with fail
              refine (HJoin.out w8 HC8.out).mono ?_
              rintro e9 w9 ⟨rfl, hb9⟩
              have HB9 := Lib.hid (below_chain HB8.out hb9)
              clear hb9
              go_wp2_with fail
              refine (ref_join_any k5 A ca a T w9 (Kd.C_below HCA.out HB9.out) HLA.out HK5.out).mono ?_
              rintro e10 w10 ⟨rfl, hb10⟩
              have HB10 := Lib.hid (below_chain HB9.out hb10)
              clear hb10
              go_wp2_with fail
              go_ret
              exact ⟨rfl, HB10.out⟩
end Go.Proofs.YtepfgckaapmeoaaDoor
