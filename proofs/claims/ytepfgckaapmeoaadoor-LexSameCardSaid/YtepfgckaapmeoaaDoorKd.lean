/-
  Lemmas on rows of strings and of structs that a call itself made.
-/
import Derived.Test.YtepfgckaapmeoaaDoorWWords
import Derived.Test.YtepfgckaapmeoaaDoorWLast
import Derived.Test.YtepfgckaapmeoaaDoorWMore
namespace Go.Proofs.YtepfgckaapmeoaaDoor
open Go.RowKit Go.Proofs.YtepfgckaapmeoaaDoorW.PrintWords Go.Proofs.YtepfgckaapmeoaaDoorW.PrintLast Go.Proofs.YtepfgckaapmeoaaDoorW.PrintMore

theorem own_strs {e base : Nat} {ok : Nat → Prop} {w : World} {v : Value} {xs : List ByteArray} (h : Kd.R Kd.string e w base ok v xs) (hn : 0 < xs.length) :
    ∃ g c, v = .slice (some ⟨g, 0, none⟩) xs.length c ∧ g < w.heap.size ∧ xs.length ≤ c ∧ ∀ (j : Nat) x, xs[j]? = some x → w.cell? ⟨g, 0 + j, none⟩ = some (.string x) := by
  obtain ⟨A, c, rfl, hc, hC⟩ := Kd.R_reads h
  obtain ⟨_, inner, hown, _⟩ := h
  obtain ⟨_, ⟨hv, h0⟩ | ⟨g, cap, cur, hv, _, hg, _⟩⟩ := hown
  · omega
  · cases hv
    refine ⟨g, c, rfl, blk_lt hg, hc, ?_⟩
    intro j x hj
    obtain ⟨_, _, h3⟩ := hC
    obtain ⟨ad, ha, h4⟩ := h3 hn
    cases ha
    obtain ⟨cs, hl, hK, h5⟩ := h4 j x hj
    have hk : cs = [.string x] := hK
    subst hk
    have := h5 0 _ rfl
    rw [add_plain] at this
    have h1 : j * Kd.string.sz + 0 = 0 + j := by have : Kd.string.sz = 1 := rfl; rw [this]; omega
    rw [h1] at this
    exact this
theorem own_reads0 {α : Type} {d : Kd α} {e base : Nat} {ok : Nat → Prop} {w : World} {v : Value} {xs : List α} (h : Kd.R d e w base ok v xs) (hn : 0 < xs.length) :
    ∃ g c, v = .slice (some ⟨g, 0, none⟩) xs.length c ∧ g < w.heap.size ∧ base ≤ g ∧ xs.length ≤ c ∧ Kd.C d w (some ⟨g, 0, none⟩) xs.length xs := by
  obtain ⟨A, c, rfl, hc, hC⟩ := Kd.R_reads h
  obtain ⟨_, inner, hown, _⟩ := h
  obtain ⟨_, ⟨hv, h0⟩ | ⟨g, cap, cur, hv, hb, hg, _⟩⟩ := hown
  · omega
  · cases hv
    exact ⟨g, c, rfl, blk_lt hg, hb, hc, hC⟩
end Go.Proofs.YtepfgckaapmeoaaDoor
