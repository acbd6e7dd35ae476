/-
  The law ZookieNewer, at arguments that are known. ZookieNewer: for every two zookies the law returns true, and the arguments read as they did. Conditions: the row's own (the listed package-level variables read as their initialisers laid them; the card ties that to the program's text).
-/
import Derived.Test.YtipapffpfggmnaaDoorMAw
import Derived.Test.YtipapffpfggmnaaDoorMLaid
import Derived.Test.YtipapffpfggmnaaDoorTie
import Derived.Test.YtipapffpfggmnaaDoorCards
import Derived.SizedLaws
import Derived.ShutString
import Derived.SevenTiedAt
import Derived.Carry
namespace Go.Proofs.YtipapffpfggmnaaDoor
open Go.RowKit Go.Proofs.YtipapffpfggmnaaDoorW.PrintWords Go.Proofs.YtipapffpfggmnaaDoorW.PrintLast Go.Proofs.YtipapffpfggmnaaDoorW.PrintMore Go.Proofs.YtipapffpfggmnaaDoor.PRef
set_option linter.unusedVariables false
set_option maxHeartbeats 1000000 in
set_option maxRecDepth 100000 in
theorem LNew_any (v r : Int) (d : List Int) (v' r' : Int) (d' : List Int) (w : World) (hd : d.length = 32) (hd' : d'.length = 32) (hg : LaidErr w) (hK : LaidK w) :
    Calls Tryd.prog 7 #[.agg (zkC v r d), .agg (zkC v' r' d')] w (BoolPost w true) := by
  have hl0 := heap_alloc_last w (.cells (zkC v r d) 26)
  have hl1 := heap_alloc_last (w.alloc (.cells (zkC v r d) 26)) (.cells (zkC v' r' d') 26)
  rw [World.size_alloc] at hl1
  have hl0' := (heap_alloc_old (w.alloc (.cells (zkC v r d) 26)) (.cells (zkC v' r' d') 26) (by rw [World.size_alloc]; omega)).trans hl0
  have hB := below_alloc (below_alloc (Below.refl w.heap.size w) (.cells (zkC v r d) 26)) (.cells (zkC v' r' d') 26)
  have HZ := Lib.hid hl0'
  have HZ' := Lib.hid hl1
  have HB := Lib.hid hB
  have HA := Lib.hid (awake_any _ (hg.below hB) (hK.below hB))
  have HI := Lib.hid (i32n d hd)
  have HI' := Lib.hid (i32n d' hd')
  have HJ := Lib.hid (iz26 v r d hd)
  have HJ' := Lib.hid (iz26 v' r' d' hd')
  have HQ := Lib.hid (arr_eql d d' hd hd')
  have HN1 := Lib.hid (fun W => Newer_any v r d v' r' d' W hd hd')
  have HN2 := Lib.hid (fun W => Newer_any v' r' d' v r d W hd' hd)
  clear hl0 hl1 hl0' hd hd' hB hg hK
  have HS : ∀ W : World, W.heap[w.heap.size]? = some (.cells (zkC v r d) 26 (0, 0)) → W.heap[w.heap.size + 1]? = some (.cells (zkC v' r' d') 26 (0, 0)) →
      W.cell? ⟨w.heap.size, 0, none⟩ = some (.int .u8 v) ∧ W.cell? ⟨w.heap.size, 1, none⟩ = some (.int .u64 r) ∧ W.cell? ⟨w.heap.size + 1, 0, none⟩ = some (.int .u8 v') ∧ W.cell? ⟨w.heap.size + 1, 1, none⟩ = some (.int .u64 r') ∧ W.rangeAt w.heap.size 2 (nums .u8 d) ∧ W.rangeAt (w.heap.size + 1) 2 (nums .u8 d') :=
    fun W h0 h1 => ⟨zk_cell0 h0, zk_cell1 h0, zk_cell0 h1, zk_cell1 h1, zk_range h0, zk_range h1⟩
  have HSS := Lib.hid HS
  clear HS
  generalize zkC v r d = Z at *
  generalize zkC v' r' d' = Z' at *
  go_enter Tryd.func7, Tryd.ntmps7
  go_wp2_with fail
  refine HA.out.mono ?_
  rintro e1 w1 ⟨rfl, hb1⟩
  have HZ1 := Lib.hid (blk_below HZ.out hb1)
  have HZ1' := Lib.hid (blk_below HZ'.out hb1)
  have HB1 := Lib.hid (HB.out.trans (hb1.mono HB.out.size))
  have hn0 := blk_lt HZ1.out
  have hn1 := blk_lt HZ1'.out
  obtain ⟨q0, q1, q0', q1', hr, hr'⟩ := HSS.out w1 HZ1.out HZ1'.out
  have c0 := wx_cell q0 hn0
  have c1 := wx_cell q1 hn0
  have c0' := wx_cell q0' hn1
  have c1' := wx_cell q1' hn1
  have HR := Lib.hid hr
  have HR' := Lib.hid hr'
  clear q0 q1 q0' q1' hb1 hr hr'
  generalize hnn : w.heap.size = n at *
  have HNN := Lib.hid hnn
  clear hnn
  go_wp2_with fail
  by_cases hv : v = v'
  · subst hv
    by_cases hdd : d = d'
    · have hq := HQ.out
      rw [decide_eq_true hdd] at hq
      by_cases hr : r > r'
      · have h1 := fun x : Wx w1 => HN1.out x.w
        have h2 := fun x : Wx w1 => HN2.out x.w
        rw [show newF v r d v r' d' = true from decide_eq_true ⟨rfl, hdd, hr⟩] at h1
        rw [show newF v r' d' v r d = false from decide_eq_false fun h => by omega] at h2
        have H1 := Lib.hid h1
        have H2 := Lib.hid h2
        clear hdd HQ h1 h2
        refine wp_region_wx (by kernel_rfl) (by kernel_rfl) ?_; (repeat (first | go_big_quiet_skip | ((with_reducible refine gateq (N := 7) rfl ?_); refine wpQuiet_load_row (by rfl) 26 _ rfl n rfl 26 _ (0, 0) _ HZ1.out Tryd.underlying26 rfl HJ.out ?_; simp only [Act.put, List.setIfInBounds_toArray, List.set_cons_zero, List.set_cons_succ]) | ((with_reducible refine gateq (N := 8) rfl ?_); refine wpQuiet_load_row (by rfl) 26 _ rfl (n + 1) rfl 26 _ (0, 0) _ HZ1'.out Tryd.underlying26 rfl HJ'.out ?_; simp only [Act.put, List.setIfInBounds_toArray, List.set_cons_zero, List.set_cons_succ]) | ((with_reducible refine gateq (N := 17) rfl ?_); refine wpQuiet_load_mid (by rfl) 24 _ rfl n 2 rfl (nums .u8 d) _ HR.out hn0 Tryd.underlying24 rfl HI.out ?_; simp only [Act.put, List.setIfInBounds_toArray, List.set_cons_zero, List.set_cons_succ]) | ((with_reducible refine gateq (N := 19) rfl ?_); refine wpQuiet_load_mid (by rfl) 24 _ rfl (n + 1) 2 rfl (nums .u8 d') _ HR'.out hn1 Tryd.underlying24 rfl HI'.out ?_; simp only [Act.put, List.setIfInBounds_toArray, List.set_cons_zero, List.set_cons_succ]) | ((with_reducible refine gateq (N := 31) rfl ?_); refine wpQuiet_load_row (by rfl) 26 _ rfl n rfl 26 _ (0, 0) _ HZ1.out Tryd.underlying26 rfl HJ.out ?_; simp only [Act.put, List.setIfInBounds_toArray, List.set_cons_zero, List.set_cons_succ]) | ((with_reducible refine gateq (N := 32) rfl ?_); refine wpQuiet_load_row (by rfl) 26 _ rfl (n + 1) rfl 26 _ (0, 0) _ HZ1'.out Tryd.underlying26 rfl HJ'.out ?_; simp only [Act.put, List.setIfInBounds_toArray, List.set_cons_zero, List.set_cons_succ]) | ((with_reducible refine gateq (N := 35) rfl ?_); refine wpQuiet_load_row (by rfl) 26 _ rfl (n + 1) rfl 26 _ (0, 0) _ HZ1'.out Tryd.underlying26 rfl HJ'.out ?_; simp only [Act.put, List.setIfInBounds_toArray, List.set_cons_zero, List.set_cons_succ]) | ((with_reducible refine gateq (N := 36) rfl ?_); refine wpQuiet_load_row (by rfl) 26 _ rfl n rfl 26 _ (0, 0) _ HZ1.out Tryd.underlying26 rfl HJ.out ?_; simp only [Act.put, List.setIfInBounds_toArray, List.set_cons_zero, List.set_cons_succ]) | go_big_quiet_step ((first | (go_at_call 21; with_reducible exact calls_wx (H1.out _)) | (go_at_call 21; with_reducible exact calls_wx (H2.out _)))))); refine wpQuiet_nil ?_; rintro _ ⟨⟨w9, hb9⟩, rfl⟩; go_wp2_with fail
        go_ret
        exact ⟨rfl, by rw [HNN.out]; exact HB1.out.trans (hb9.mono (Nat.le_of_lt hn0))⟩
      · have h1 := fun x : Wx w1 => HN1.out x.w
        have h2 := fun x : Wx w1 => HN2.out x.w
        rw [show newF v r d v r' d' = false from decide_eq_false fun h => by omega] at h1
        have H1 := Lib.hid h1
        have H2 := Lib.hid h2
        clear hdd HQ h1 h2
        refine wp_region_wx (by kernel_rfl) (by kernel_rfl) ?_; (repeat (first | go_big_quiet_skip | ((with_reducible refine gateq (N := 7) rfl ?_); refine wpQuiet_load_row (by rfl) 26 _ rfl n rfl 26 _ (0, 0) _ HZ1.out Tryd.underlying26 rfl HJ.out ?_; simp only [Act.put, List.setIfInBounds_toArray, List.set_cons_zero, List.set_cons_succ]) | ((with_reducible refine gateq (N := 8) rfl ?_); refine wpQuiet_load_row (by rfl) 26 _ rfl (n + 1) rfl 26 _ (0, 0) _ HZ1'.out Tryd.underlying26 rfl HJ'.out ?_; simp only [Act.put, List.setIfInBounds_toArray, List.set_cons_zero, List.set_cons_succ]) | ((with_reducible refine gateq (N := 17) rfl ?_); refine wpQuiet_load_mid (by rfl) 24 _ rfl n 2 rfl (nums .u8 d) _ HR.out hn0 Tryd.underlying24 rfl HI.out ?_; simp only [Act.put, List.setIfInBounds_toArray, List.set_cons_zero, List.set_cons_succ]) | ((with_reducible refine gateq (N := 19) rfl ?_); refine wpQuiet_load_mid (by rfl) 24 _ rfl (n + 1) 2 rfl (nums .u8 d') _ HR'.out hn1 Tryd.underlying24 rfl HI'.out ?_; simp only [Act.put, List.setIfInBounds_toArray, List.set_cons_zero, List.set_cons_succ]) | ((with_reducible refine gateq (N := 31) rfl ?_); refine wpQuiet_load_row (by rfl) 26 _ rfl n rfl 26 _ (0, 0) _ HZ1.out Tryd.underlying26 rfl HJ.out ?_; simp only [Act.put, List.setIfInBounds_toArray, List.set_cons_zero, List.set_cons_succ]) | ((with_reducible refine gateq (N := 32) rfl ?_); refine wpQuiet_load_row (by rfl) 26 _ rfl (n + 1) rfl 26 _ (0, 0) _ HZ1'.out Tryd.underlying26 rfl HJ'.out ?_; simp only [Act.put, List.setIfInBounds_toArray, List.set_cons_zero, List.set_cons_succ]) | ((with_reducible refine gateq (N := 35) rfl ?_); refine wpQuiet_load_row (by rfl) 26 _ rfl (n + 1) rfl 26 _ (0, 0) _ HZ1'.out Tryd.underlying26 rfl HJ'.out ?_; simp only [Act.put, List.setIfInBounds_toArray, List.set_cons_zero, List.set_cons_succ]) | ((with_reducible refine gateq (N := 36) rfl ?_); refine wpQuiet_load_row (by rfl) 26 _ rfl n rfl 26 _ (0, 0) _ HZ1.out Tryd.underlying26 rfl HJ.out ?_; simp only [Act.put, List.setIfInBounds_toArray, List.set_cons_zero, List.set_cons_succ]) | go_big_quiet_step ((first | (go_at_call 21; with_reducible exact calls_wx (H1.out _)) | (go_at_call 21; with_reducible exact calls_wx (H2.out _)))))); refine wpQuiet_nil ?_; rintro _ ⟨⟨w9, hb9⟩, rfl⟩; go_wp2_with fail
        go_ret
        exact ⟨rfl, by rw [HNN.out]; exact HB1.out.trans (hb9.mono (Nat.le_of_lt hn0))⟩
    · have hq := HQ.out
      rw [decide_eq_false hdd] at hq
      have h1 := fun x : Wx w1 => HN1.out x.w
      have h2 := fun x : Wx w1 => HN2.out x.w
      rw [show newF v r d v r' d' = false from decide_eq_false fun h => hdd h.2.1] at h1
      have H1 := Lib.hid h1
      have H2 := Lib.hid h2
      clear hdd HQ h1 h2
      refine wp_region_wx (by kernel_rfl) (by kernel_rfl) ?_; (repeat (first | go_big_quiet_skip | ((with_reducible refine gateq (N := 7) rfl ?_); refine wpQuiet_load_row (by rfl) 26 _ rfl n rfl 26 _ (0, 0) _ HZ1.out Tryd.underlying26 rfl HJ.out ?_; simp only [Act.put, List.setIfInBounds_toArray, List.set_cons_zero, List.set_cons_succ]) | ((with_reducible refine gateq (N := 8) rfl ?_); refine wpQuiet_load_row (by rfl) 26 _ rfl (n + 1) rfl 26 _ (0, 0) _ HZ1'.out Tryd.underlying26 rfl HJ'.out ?_; simp only [Act.put, List.setIfInBounds_toArray, List.set_cons_zero, List.set_cons_succ]) | ((with_reducible refine gateq (N := 17) rfl ?_); refine wpQuiet_load_mid (by rfl) 24 _ rfl n 2 rfl (nums .u8 d) _ HR.out hn0 Tryd.underlying24 rfl HI.out ?_; simp only [Act.put, List.setIfInBounds_toArray, List.set_cons_zero, List.set_cons_succ]) | ((with_reducible refine gateq (N := 19) rfl ?_); refine wpQuiet_load_mid (by rfl) 24 _ rfl (n + 1) 2 rfl (nums .u8 d') _ HR'.out hn1 Tryd.underlying24 rfl HI'.out ?_; simp only [Act.put, List.setIfInBounds_toArray, List.set_cons_zero, List.set_cons_succ]) | ((with_reducible refine gateq (N := 31) rfl ?_); refine wpQuiet_load_row (by rfl) 26 _ rfl n rfl 26 _ (0, 0) _ HZ1.out Tryd.underlying26 rfl HJ.out ?_; simp only [Act.put, List.setIfInBounds_toArray, List.set_cons_zero, List.set_cons_succ]) | ((with_reducible refine gateq (N := 32) rfl ?_); refine wpQuiet_load_row (by rfl) 26 _ rfl (n + 1) rfl 26 _ (0, 0) _ HZ1'.out Tryd.underlying26 rfl HJ'.out ?_; simp only [Act.put, List.setIfInBounds_toArray, List.set_cons_zero, List.set_cons_succ]) | ((with_reducible refine gateq (N := 35) rfl ?_); refine wpQuiet_load_row (by rfl) 26 _ rfl (n + 1) rfl 26 _ (0, 0) _ HZ1'.out Tryd.underlying26 rfl HJ'.out ?_; simp only [Act.put, List.setIfInBounds_toArray, List.set_cons_zero, List.set_cons_succ]) | ((with_reducible refine gateq (N := 36) rfl ?_); refine wpQuiet_load_row (by rfl) 26 _ rfl n rfl 26 _ (0, 0) _ HZ1.out Tryd.underlying26 rfl HJ.out ?_; simp only [Act.put, List.setIfInBounds_toArray, List.set_cons_zero, List.set_cons_succ]) | go_big_quiet_step ((first | (go_at_call 21; with_reducible exact calls_wx (H1.out _)) | (go_at_call 21; with_reducible exact calls_wx (H2.out _)))))); refine wpQuiet_nil ?_; rintro _ ⟨⟨w9, hb9⟩, rfl⟩; go_wp2_with fail
      go_ret
      exact ⟨rfl, by rw [HNN.out]; exact HB1.out.trans (hb9.mono (Nat.le_of_lt hn0))⟩
  · have hvb : (v == v') = false := by simpa using hv
    have h1 := fun x : Wx w1 => HN1.out x.w
    have h2 := fun x : Wx w1 => HN2.out x.w
    rw [show newF v r d v' r' d' = false from decide_eq_false fun h => hv h.1] at h1
    have H1 := Lib.hid h1
    have H2 := Lib.hid h2
    clear HQ h1 h2
    refine wp_region_wx (by kernel_rfl) (by kernel_rfl) ?_; (repeat (first | go_big_quiet_skip | ((with_reducible refine gateq (N := 7) rfl ?_); refine wpQuiet_load_row (by rfl) 26 _ rfl n rfl 26 _ (0, 0) _ HZ1.out Tryd.underlying26 rfl HJ.out ?_; simp only [Act.put, List.setIfInBounds_toArray, List.set_cons_zero, List.set_cons_succ]) | ((with_reducible refine gateq (N := 8) rfl ?_); refine wpQuiet_load_row (by rfl) 26 _ rfl (n + 1) rfl 26 _ (0, 0) _ HZ1'.out Tryd.underlying26 rfl HJ'.out ?_; simp only [Act.put, List.setIfInBounds_toArray, List.set_cons_zero, List.set_cons_succ]) | ((with_reducible refine gateq (N := 17) rfl ?_); refine wpQuiet_load_mid (by rfl) 24 _ rfl n 2 rfl (nums .u8 d) _ HR.out hn0 Tryd.underlying24 rfl HI.out ?_; simp only [Act.put, List.setIfInBounds_toArray, List.set_cons_zero, List.set_cons_succ]) | ((with_reducible refine gateq (N := 19) rfl ?_); refine wpQuiet_load_mid (by rfl) 24 _ rfl (n + 1) 2 rfl (nums .u8 d') _ HR'.out hn1 Tryd.underlying24 rfl HI'.out ?_; simp only [Act.put, List.setIfInBounds_toArray, List.set_cons_zero, List.set_cons_succ]) | ((with_reducible refine gateq (N := 31) rfl ?_); refine wpQuiet_load_row (by rfl) 26 _ rfl n rfl 26 _ (0, 0) _ HZ1.out Tryd.underlying26 rfl HJ.out ?_; simp only [Act.put, List.setIfInBounds_toArray, List.set_cons_zero, List.set_cons_succ]) | ((with_reducible refine gateq (N := 32) rfl ?_); refine wpQuiet_load_row (by rfl) 26 _ rfl (n + 1) rfl 26 _ (0, 0) _ HZ1'.out Tryd.underlying26 rfl HJ'.out ?_; simp only [Act.put, List.setIfInBounds_toArray, List.set_cons_zero, List.set_cons_succ]) | ((with_reducible refine gateq (N := 35) rfl ?_); refine wpQuiet_load_row (by rfl) 26 _ rfl (n + 1) rfl 26 _ (0, 0) _ HZ1'.out Tryd.underlying26 rfl HJ'.out ?_; simp only [Act.put, List.setIfInBounds_toArray, List.set_cons_zero, List.set_cons_succ]) | ((with_reducible refine gateq (N := 36) rfl ?_); refine wpQuiet_load_row (by rfl) 26 _ rfl n rfl 26 _ (0, 0) _ HZ1.out Tryd.underlying26 rfl HJ.out ?_; simp only [Act.put, List.setIfInBounds_toArray, List.set_cons_zero, List.set_cons_succ]) | go_big_quiet_step ((first | (go_at_call 21; with_reducible exact calls_wx (H1.out _)) | (go_at_call 21; with_reducible exact calls_wx (H2.out _)))))); refine wpQuiet_nil ?_; rintro _ ⟨⟨w9, hb9⟩, rfl⟩; go_wp2_with fail
    go_ret
    exact ⟨rfl, by rw [HNN.out]; exact HB1.out.trans (hb9.mono (Nat.le_of_lt hn0))⟩
end Go.Proofs.YtipapffpfggmnaaDoor
namespace Go.Proofs.YtipapffpfggmnaaDoor
open Go.ChangeShapes Go.WideShapes Go.ChangeAt Go.RowKit
open Go.ChangeMaps (open_string shut_string)
set_option linter.unusedVariables false

theorem newer_default : ∃ v, v = Value.agg zk0 := ⟨_, rfl⟩
set_option maxRecDepth 100000 in
theorem newer_of_lifted (os : Os) (started : os.Started) (H : Type) (enc : TypeId × Value → H) :
    ReturnsInHanded {} Tryd.checked os 7 .any (fun w args => (Rows.zookieNewerSpec.pre enc Tryd.prog Tryd.f7 [] false w args ∧ laidMetH Tryd.prog laid2 w) ∧ sizedMet enc Tryd.prog Tryd.f7 (OpenSpec.ofChange Rows.zookieNewerSpec) false w args)
      (Rows.zookieNewerSpec.post enc Tryd.prog Tryd.f7 false true false false) := by
  refine returnsInHanded_of_change_and (C := Tryd.checked) (X := fun w _ => laidMetH Tryd.prog laid2 w) (fun _ _ _ hh h => h.of_heap hh) own started (by kernel_rfl) Tryd.func7
    (ChangeSpec.witness_shaped (enc := enc) (C := Tryd.checked) (os := os) (X := fun w _ => laidMetH Tryd.prog laid2 w) false (World.doorLaid Tryd.prog 21 os) #[.agg zk0, .agg zk0] 8 rfl (World.shaped_of_RefB (by kernel_rfl) (by kernel_rfl)) (by kernel_rfl) (by kernel_rfl) (by kernel_rfl) (door_met os _)) ?_
  intro W base args ds gs before hval0 hW _ hsz0 hL _
  have hval : ∀ (j : Nat) t v, Tryd.f7.params[j]? = some t → args[j]? = some v → Value.okWide Tryd.prog W .any base t v := hval0
  have hW' := hW
  obtain ⟨p, q, hA0, hV, rfl, hfz, hnd⟩ := hW
  have hA : DataW.TrodAll enc Tryd.prog W 0 (fun _ => true) true Tryd.f7.params.toList args.toList ds p := hA0
  rw [Tryd.params7] at hA hval
  obtain ⟨v0, v1, d0, d1, p0, p1, rfl, rfl, rfl, h0, h1⟩ := trodAll_two hA
  obtain ⟨rfl, rfl⟩ := trodVars_none hV
  have hlt : ∀ x ∈ p0 ++ p1, x.block < W.heap.size := fun x hx => hW'.lt x (List.mem_append_left _ hx)
  obtain ⟨a, r, z, rfl, hz, _, _, _⟩ := open_zk (hval 0 26 v0 rfl rfl) h0
  obtain ⟨a', r', z', rfl, hz', _, _, _⟩ := open_zk (hval 1 26 v1 rfl rfl) h1
  obtain ⟨hE, hK⟩ := of_laid hL
  clear hA0 hval0 hsz0
  refine (LNew_any a r z a' r' z' W hz hz' hE hK).mono fun e W' ⟨he, bel⟩ => ?_
  subst he
  exact ⟨_, rfl, _, _, _, [], _, [], hW', trodAll_mk1 (shut_bool Tryd.underlying4 _), trodAll_mk2 (Below.trod laidOut (by kernel_rfl) (of_decide_eq_true (by kernel_rfl)) h0 bel (fun x hx => hlt x (List.mem_append.2 (.inl hx)))) (Below.trod laidOut (by kernel_rfl) (of_decide_eq_true (by kernel_rfl)) h1 bel (fun x hx => hlt x (List.mem_append.2 (.inr hx)))), rfl, bel.frame _, fun h => by cases h⟩

theorem newer_of_row : Rows.ZookieNewerSaid :=
  OpenClaim.holds_of_wide 7 Tryd.f7 rfl rfl rfl rfl rfl rfl rfl ⟨rfl, rfl, rfl, rfl, rfl⟩ rfl rfl rfl rfl rfl (by kernel_rfl) Tryd.func7 (by kernel_rfl)
    (of_decide_eq_true (by kernel_rfl)) (by unfold Func.isWrapper; rw [if_neg (of_decide_eq_false (by kernel_rfl))]; exact ⟨rfl, rfl⟩)
    (fun os started H enc _ => newer_of_lifted os started H enc)
theorem newer_holds : Rows.ZookieNewerCardSaid :=
  Claim7.holds_tied_plain_at .later [] [.data, .handle] true (true, "5729c4daddc95e802bcb8d5736c00c9ede43c5b4cd159c38dbe016282c331bc0") true
    newer_of_row (fun _ h => by cases h) (by kernel_rfl) (fun _ h => by cases h) zookieNewer_row_tie rfl ⟨rfl, rfl⟩ (by kernel_rfl) rfl
    (fun f fn hf hfn => by
      obtain rfl : f = 7 := Option.some.inj ((show Tryd.prog.funcNamed "vestry/vestrylaw22.ZookieNewer" = some 7 by kernel_rfl).symm.trans hf) |>.symm
      obtain rfl : fn = Tryd.f7 := (Option.some.inj (Tryd.func7.symm.trans hfn)).symm
      exact ⟨by kernel_rfl, fun j t ht => by
        rw [Tryd.params7] at ht
        have h3 : t = 26 := by
          rcases j with _ | _ | j
          · simpa using ht.symm
          · simpa using ht.symm
          · simp at ht
        subst h3
        exact (show Tryd.prog.wantsStandIn 26 = false by kernel_rfl)⟩)
    (by kernel_rfl)
#print axioms newer_holds
end Go.Proofs.YtipapffpfggmnaaDoor
