/-
  An argument that is a slice of the reference's tokens, opened to a row of cells.
-/
import Derived.Test.YtepfgckaapmeoaaDoorLexRefE
import Derived.Deep.Slices
import Derived.SizedLaws
import Derived.ShutString
import Derived.Carry
namespace Go.Proofs.YtepfgckaapmeoaaDoor
open Go.RowKit Go.Proofs.YtepfgckaapmeoaaDoorW.PrintWords Go.Proofs.YtepfgckaapmeoaaDoorW.PrintLast Go.Proofs.YtepfgckaapmeoaaDoorW.PrintMore Go.Proofs.YtepfgckaapmeoaaDoor.PRef Go.ChangeShapes Go.WideShapes Go.Deep
set_option linter.unusedVariables false

theorem all_mem {H : Type} {P : Program} {e : TypeId} : ∀ {l : List (DataW H)} {d : DataW H}, d ∈ l → ∀ n ∈ d.weights P e, n ∈ DataW.weightsAll P e l
  | [], d, h, n, hn => by cases h
  | x :: l, d, h, n, hn => by
    rw [DataW.weightsAll, List.mem_append]
    rcases List.mem_cons.1 h with rfl | h
    · exact .inl hn
    · exact .inr (all_mem h n hn)
theorem cTok : Tryd.prog.cellsOf 37 = 3 := by kernel_rfl
theorem cInt : Tryd.prog.cellsOf 3 = 1 := by kernel_rfl
theorem cStr : Tryd.prog.cellsOf 9 = 1 := by kernel_rfl
theorem tri_of {α : Type} : ∀ l : List α, l.length = 3 → ∃ a b c, l = [a, b, c]
  | [a, b, c], _ => ⟨a, b, c, rfl⟩
/-- One element. -/
theorem open_tok {H : Type} {enc : TypeId × Value → H} {W : World} {base : Nat} {spare : Nat → Bool} {held : Bool} {n : Nat} {cs : List Value} {x : DataW H × List MemPlace} (h : DataW.trod enc Tryd.prog W base spare held n 37 cs = some x) :
    ∃ z : S37, cs = [.int .i64 z.f0, .string z.f1, .int .i64 z.f2] ∧ x.1 = .agg [.lit (.int .i64 z.f0), .lit (.string z.f1.data.toList), .lit (.int .i64 z.f2)] := by
  obtain ⟨ys, n', _, rfl, hl, hyl, hf⟩ := DataW.trod_struct Tryd.underlying37 h
  rw [cTok] at hl
  have hyl3 : ys.length = 3 := hyl
  obtain ⟨c0, c1, c2, rfl⟩ := tri_of cs hl
  obtain ⟨y0, y1, y2, rfl⟩ := tri_of ys hyl3
  · have h0 : DataW.trod enc Tryd.prog W base spare held n' 3 (([c0, c1, c2].drop 0).take (Tryd.prog.cellsOf 3)) = some y0 := hf 0 _ rfl
    have h1 : DataW.trod enc Tryd.prog W base spare held n' 9 (([c0, c1, c2].drop 1).take (Tryd.prog.cellsOf 9)) = some y1 := hf 1 _ rfl
    have h2 : DataW.trod enc Tryd.prog W base spare held n' 3 (([c0, c1, c2].drop 2).take (Tryd.prog.cellsOf 3)) = some y2 := hf 2 _ rfl
    rw [cInt] at h0 h2
    rw [cStr] at h1
    obtain ⟨n0, e0, q0, _⟩ := DataW.trod_int (x := y0) Tryd.underlying3 h0
    obtain ⟨s1, e1, q1, _⟩ := DataW.trod_string (x := y1) Tryd.underlying9 h1
    obtain ⟨n2, e2, q2, _⟩ := DataW.trod_int (x := y2) Tryd.underlying3 h2
    refine ⟨⟨n0, s1, n2⟩, ?_, ?_⟩
    · have e0' : [c0] = [Value.int .i64 n0] := e0
      have e1' : [c1] = [Value.string s1] := e1
      have e2' : [c2] = [Value.int .i64 n2] := e2
      cases e0'; cases e1'; cases e2'; rfl
    · rw [q0, q1, q2]; rfl
theorem open_toks {H : Type} {enc : TypeId × Value → H} {W : World} {a : Option Addr} {len cap : Nat} {d : DataW H} {p : List MemPlace} {ts : List TypeId} {ds : List (DataW H)} {j : Nat}
    (hsz : (DataW.weightsEach Tryd.prog ts ds).all (· ≤ reachBytes) = true) (ht : ts[j]? = some 28) (hd : ds[j]? = some d)
    (h : DataW.Trod enc Tryd.prog W 0 (fun _ => true) true 28 (.slice a len cap) d p) :
    ∃ xs : List S37, xs.length = len ∧ len ≤ cap ∧ Kd.C k37 W a len xs ∧ ∀ t ∈ xs, t.f1.size ≤ 140737488351232 := by
  obtain ⟨fuel, hf⟩ := h
  rcases open_slice Tryd.underlying28 hf with ⟨hcs, hx⟩ | ⟨b, l, c, m, n, D, Pl, hcs, hb, hl, hm, hmm, hx, hi⟩
  · simp [Value.cells] at hcs
    obtain ⟨rfl, rfl, rfl⟩ := hcs
    exact ⟨[], rfl, Nat.le_refl _, ⟨rfl, by omega, fun h => by omega⟩, fun t h => by cases h⟩
  · simp [Value.cells] at hcs
    obtain ⟨rfl, rfl, rfl⟩ := hcs
    simp only [if_true] at hmm
    subst hmm
    simp only [Prod.mk.injEq] at hx
    obtain ⟨rfl, _⟩ := hx
    have one : ∀ i, i < len → ∃ z : S37, (∀ k u, [Value.int .i64 z.f0, .string z.f1, .int .i64 z.f2][k]? = some u → W.cell? (b.add (i * 3 + k)) = some u) ∧ D i = .agg [.lit (.int .i64 z.f0), .lit (.string z.f1.data.toList), .lit (.int .i64 z.f2)] := fun i hil => by
      obtain ⟨cs', hc, ht'⟩ := hi i (by omega)
      rw [cTok] at hc
      obtain ⟨z, hz, hD⟩ := open_tok ht'
      obtain ⟨_, hcl, hat⟩ := World.cells?_some hc
      refine ⟨z, fun k u hk => ?_, hD⟩
      have hk3 : k < 3 := by
        have := (List.getElem?_eq_some_iff.1 hk).1
        simpa using this
      have := hat k hk3
      rw [hz, hk, Go.Deep.add_add] at this
      exact this
    haveI : Inhabited S37 := ⟨⟨0, ⟨#[]⟩, 0⟩⟩
    obtain ⟨Z, hZ⟩ := choose_lt one
    have hmx : len ≤ 9223372036854775807 := Nat.le_trans hl (Nat.le_trans hm (by decide))
    refine ⟨(List.range len).map Z, by simp, hl, ⟨by simp, hmx, fun _ => ⟨b, rfl, fun j q hj => ?_⟩⟩, fun t ht2 => ?_⟩
    · obtain ⟨hjl, hq⟩ := List.getElem?_eq_some_iff.1 hj
      simp at hjl hq
      subst hq
      exact ⟨_, rfl, k37_mk W (Z j), (hZ j hjl).1⟩
    · obtain ⟨i, hi2, rfl⟩ := List.mem_map.1 ht2
      have hil : i < len := List.mem_range.1 hi2
      have hw := List.all_eq_true.1 hsz (Z i).f1.data.toList.length (DataW.weights_mem_each ht hd _ (by
        rw [DataW.weights, Tryd.underlying28]
        refine List.mem_cons_of_mem _ (List.mem_append_left _ (all_mem (List.mem_map.2 ⟨i, hi2, (hZ i hil).2⟩) _ ?_))
        rw [DataW.weights, Tryd.underlying37]
        simp [DataW.weightsEach, DataW.weights]))
      rw [data_len] at hw
      exact of_decide_eq_true hw
end Go.Proofs.YtepfgckaapmeoaaDoor
