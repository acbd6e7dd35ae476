/-
  The contract of package lex's Join: the texts of the tokens but the end, with one space between each two.
-/
import Derived.Test.YtepfgckaapmeoaaDoorLexTok
import Derived.Test.YtepfgckaapmeoaaDoorKd
import Derived.Outline
namespace Go.Proofs.YtepfgckaapmeoaaDoor
open Go.RowKit Go.Proofs.YtepfgckaapmeoaaDoorW.PrintWords Go.Proofs.YtepfgckaapmeoaaDoorW.PrintLast Go.Proofs.YtepfgckaapmeoaaDoorW.PrintMore Go.Proofs.YtepfgckaapmeoaaDoor.PRef
set_option linter.unusedVariables false

theorem infoStr : (Tryd.prog.info? 9).map (fun i => (i.zero, i.size, i.bytes)) = some (some (.string ⟨#[]⟩), 1, 16) := by kernel_rfl
/-- The texts of the tokens but the end. -/
def textsOf (l : List S36) : List ByteArray := (l.filter fun t => decide (t.f0 ≠ 3)).map fun t => t.f1
def joinL (l : List S36) : List UInt8 := Lib.join ((textsOf l).map (·.data.toList)) [32]
theorem textsOf_snoc (l : List S36) (t : S36) : textsOf (l ++ [t]) = if t.f0 = 3 then textsOf l else textsOf l ++ [t.f1] := by
  unfold textsOf
  rw [List.filter_append, List.map_append]
  by_cases h : t.f0 = 3
  · rw [if_pos h]; simp [h]
  · rw [if_neg h]; simp [h]
theorem take_rd (l : List S36) (k : Nat) (h : k < l.length) : l.take (k + 1) = l.take k ++ [rd_T36 l (k : Int)] := by
  rw [List.take_succ_eq_append_getElem h]
  congr 2
  unfold rd_T36
  rw [Int.toNat_natCast, List.getD_eq_getElem?_getD, List.getElem?_eq_getElem h]; rfl
theorem textsOf_len (l : List S36) : (textsOf l).length ≤ l.length := by
  unfold textsOf; rw [List.length_map]; exact List.length_filter_le _ _
structure JoinRel (w : World) (l : List S36) (k : Nat) (v n : Value) (wr : World) : Prop where
  hk : k ≤ l.length
  hn : n = .int .i64 (k : Int)
  hR : Kd.R Kd.string 9 wr w.heap.size (fun _ => True) v (textsOf (l.take k))
  hB : Below w.heap.size w wr
theorem joinRel_end {w : World} {l : List S36} {k : Nat} {v : Value} {wr : World} {tk : S36} {o : Obj} (h : k < l.length) (ht : l.take (k + 1) = l.take k ++ [tk]) (h3 : tk.f0 = 3)
    (hR : Kd.R Kd.string 9 wr w.heap.size (fun _ => True) v (textsOf (l.take k))) (hB : Below w.heap.size w wr) : JoinRel w l (k + 1) v (.int .i64 ((k : Int) + 1)) (wr.alloc o) :=
  ⟨h, by go_num, by rw [ht, textsOf_snoc, if_pos h3]; exact Kd.R_alloc hR _, hB.alloc hB.size _⟩
theorem joinRel_snoc {w : World} {l : List S36} {k : Nat} {v : Value} {wr : World} {tk : S36} (h : k < l.length) (ht : l.take (k + 1) = l.take k ++ [tk]) (h3 : ¬ tk.f0 = 3)
    (hR : Kd.R Kd.string 9 wr w.heap.size (fun _ => True) v (textsOf (l.take k) ++ [tk.f1])) (hB : Below w.heap.size w wr) : JoinRel w l (k + 1) v (.int .i64 ((k : Int) + 1)) wr :=
  ⟨h, by go_num, by rw [ht, textsOf_snoc, if_neg h3]; exact hR, hB⟩
structure JoinPost (w : World) (l : List S36) (e : Ending) (w' : World) : Prop where
  out : e = .returned (.string ⟨(joinL l).toArray⟩) ∧ Below w.heap.size w w'

set_option maxHeartbeats 4000000 in
set_option maxRecDepth 100000 in
theorem Join_any (A : Option Addr) (c : Nat) (l : List S36) (w : World) (hr : Kd.C k36 w A l.length l) (hc : l.length ≤ c) (hl : l.length ≤ 1000000) (hj : (joinL l).length ≤ 140737488355328) :
    Calls Tryd.prog 14 #[.slice A l.length c] w (JoinPost w l) := by
  have HR := Aside0.mk hr
  have HC := Aside0.mk hc
  have HJ := Aside0.mk hj
  clear hr hc hj
  go_enter Tryd.func14, Tryd.ntmps14
  go_wp2_with fail
  go_loopw [3, 8] (fun v n wr => ∃ k : Nat, JoinRel w l k v n wr) (fun _ n _ => l.length - (intOf n).toNat)
  case atStart => exact ⟨0, Nat.zero_le _, rfl, Kd.R_nil _ _ _ _ _, Below.refl _ _⟩
  case round =>
    obtain ⟨k, hI⟩ := hrel
    obtain ⟨hk, rfl, hR, hB⟩ := hI
    have HRr := Aside0.mk hR
    have HB := Aside0.mk hB
    clear hR hB
    by_cases hlt : k < l.length
    · obtain ⟨ad, e, h0, h1, h2⟩ := at_T36 HR.out (k : Int) (by omega) (by omega)
      cases e
      rw [Int.toNat_natCast] at h0 h1 h2
      replace h0 := (HB.out.cell (World.block_lt_of_cell? w _ h0)).trans h0
      replace h1 := (HB.out.cell (World.block_lt_of_cell? w _ h1)).trans h1
      replace h2 := (HB.out.cell (World.block_lt_of_cell? w _ h2)).trans h2
      have hts := take_rd l k hlt
      have HTS := Aside0.mk hts
      clear hts
      generalize htk : rd_T36 l (k : Int) = tk at *
      have HTK := Aside0.mk htk
      clear htk
      by_cases h3 : tk.f0 = 3
      · have e3 : (tk.f0 != 3) = false := by rw [h3]; rfl
        have H3 := Aside0.mk h3
        clear h3
        go_wp2_with fail
        go_roundw
        case rel => exact ⟨k + 1, joinRel_end hlt HTS.out H3.out HRr.out HB.out⟩
        case measure => simp [intOf]; omega
      · have e3 : (tk.f0 != 3) = true := by simpa using h3
        have H3 := Aside0.mk h3
        clear h3
        have hbs := HB.out.size
        have htl := textsOf_len (l.take k)
        have htk2 : (l.take k).length ≤ l.length := by rw [List.length_take]; omega
        go_wp2_with ((with_reducible refine gate_builtin (b := .append) (xs := #[.tmp 15, .tmp 18]) rfl ?_); at_builtin; refine Kd.R_append Kd.string (w0 := w) w.heap.size rfl (.tmp 15) (.tmp 18) 58 9 (.string ⟨#[]⟩) 16 rfl Tryd.underlying58 infoStr rfl (by decide) (by omega) u3 (textsOf (l.take k)) tk.f1 [.string tk.f1] (fun _ => True) (fun _ => False) rfl (by simp <;> rfl) rfl (fun _ hk => hk.elim) (fun _ _ => trivial) (Kd.R_alloc HRr.out _) (HB.out.alloc hbs _) (by simp; omega) (by omega) ?_; intro v1 w1 ho hb hg hat; have ho1 := Aside0.mk ho; have hb1 := Aside0.mk hb; clear hat hg ho hb)
        go_roundw
        case rel => exact ⟨k + 1, joinRel_snoc hlt HTS.out H3.out ho1.out hb1.out⟩
        case measure => simp [intOf]; omega
    · go_wp2_with fail
      have hke : k = l.length := by omega
      have hte : l.take k = l := List.take_of_length_le (by omega)
      rw [hte] at HRr
      clear hke hte
      by_cases h0 : textsOf l = []
      · obtain ⟨A1, c1, e1⟩ := Kd.R_slice HRr.out
        rw [h0] at e1
        subst e1
        refine (Tryd.strings_Join_none A1 c1 ⟨#[32]⟩ wr).mono ?_
        rintro e2 w2 ⟨rfl, hw2⟩
        obtain rfl := hw2.symm
        go_wp2_with fail
        go_ret
        exact ⟨⟨by unfold joinL; rw [h0]; rfl, HB.out⟩⟩
      · obtain ⟨g, c1, e1, hg, hcap, hcells⟩ := own_strs HRr.out (List.length_pos_iff.2 h0)
        subst e1
        have htl := textsOf_len l
        refine (Tryd.strings_Join g 0 c1 (textsOf l) ⟨#[32]⟩ wr hcells hg (by omega) hcap HJ.out).mono ?_
        rintro e2 w2 ⟨rfl, hb2⟩
        have HB2 := Aside0.mk hb2
        clear hb2
        go_wp2_with fail
        go_ret
        exact ⟨⟨rfl, HB.out.trans (HB2.out.mono HB.out.size)⟩⟩
end Go.Proofs.YtepfgckaapmeoaaDoor
