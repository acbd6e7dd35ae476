/-
  Contracts of the two functions that rotate a word of 32 bits to the right: both compute rotI. Laws for a composite literal of eight words, and for rows of numbers in a block. The state after a block, as a plain function; laws on rows of numbers in blocks. The contract of package sha's Block: it computes blkF. Condition: the package-level variable sha.constants reads as its initialiser laid it. Plain laws of the words of a block: a word gathered byte by byte is the word put together by or; the shifted state. The contract of the reference's Block: it computes blkF too. The padding of both texts, as a plain function. Bytes taken in one by one, and block by block: the same state. The contract of the closure in package sha's Sum that takes in bytes. Condition: the package-level variable sha.constants reads as its initialiser laid it. The contracts of Start (both) and of the reference's Table. The digest as a plain function; what the walk of package sha's Sum keeps. The contract of package sha's Sum: it computes shaF of all parts' bytes. Condition: the package-level variable sha.constants reads as its initialiser laid it. The contract of the reference's Sum: it computes shaF too.
-/
import Derived.Test.YtipapffpfggmnaaDoorPRefx4
import Derived.Outline
import Derived.Lib.Hide
import Derived.IntWalk
import Derived.Deep.WholeRow
import Derived.Laws.CopyOwn
import Derived.StillTailTactics
import Derived.Great.BuildSlice
import Derived.Deep.MidRow
namespace Go.Proofs.YtipapffpfggmnaaDoor
open Go.RowKit Go.Proofs.YtipapffpfggmnaaDoorW.PrintWords Go.Proofs.YtipapffpfggmnaaDoorW.PrintLast Go.Proofs.YtipapffpfggmnaaDoorW.PrintMore Go.Proofs.YtipapffpfggmnaaDoor.PRef
set_option linter.unusedVariables false
def rotI (x n : Int) : Int := bits .or .u32 (x / 2 ^ n.toNat) (x * 2 ^ (32 - n).toNat % 4294967296)
theorem or_comm32 (a b : Int) : bits .or .u32 a b = bits .or .u32 b a := by
  simp only [bits]; rw [BitVec.or_comm]
theorem and31n (n : Nat) (h : 0 < n ∧ n < 32) : bits .and .u64 (IntKind.u64.wrap (-(n : Int))) 31 = 32 - (n : Int) := by
  have key : ∀ m : Fin 32, 0 < m.1 → bits .and .u64 (IntKind.u64.wrap (-(m.1 : Int))) 31 = 32 - (m.1 : Int) := by decide
  exact key ⟨n, h.2⟩ h.1
theorem and31 (n : Int) (h : 0 < n ∧ n < 32) : bits .and .u64 (IntKind.u64.wrap (-n)) 31 = 32 - n := by
  obtain ⟨m, rfl⟩ := Int.eq_ofNat_of_zero_le (by omega : 0 ≤ n)
  exact and31n m (by omega)
theorem rotP_any (x n : Int) (h : 0 < n ∧ n < 32) (w : World) : Calls Tryd.prog 76 #[.int .u32 x, .int .i64 n] w fun e w' => e = .returned (.int .u32 (rotI x n)) ∧ w = w' := by
  have ha := and31 n h
  have hn : 32 - (32 - n) = n := by omega
  go_enter Tryd.func76, Tryd.ntmps76
  go_wp2_with fail
  go_enter Tryd.func83, Tryd.ntmps83
  go_wp2_with fail
  go_ret
  refine ⟨?_, rfl⟩
  show Ending.returned (.int .u32 _) = .returned (.int .u32 (rotI x n))
  unfold rotI
  rw [or_comm32]
theorem rotR_any (x n : Int) (h : 0 < n ∧ n < 32) (w : World) : Calls Tryd.prog 82 #[.int .u32 x, .int .u64 n] w fun e w' => e = .returned (.int .u32 (rotI x n)) ∧ w = w' := by
  go_enter Tryd.func82, Tryd.ntmps82
  go_wp2_with fail
  go_ret
  exact ⟨rfl, rfl⟩
end Go.Proofs.YtipapffpfggmnaaDoor
namespace Go.Proofs.YtipapffpfggmnaaDoor
open Go.RowKit Go.Proofs.YtipapffpfggmnaaDoorW.PrintWords Go.Proofs.YtipapffpfggmnaaDoorW.PrintLast Go.Proofs.YtipapffpfggmnaaDoorW.PrintMore Go.Proofs.YtipapffpfggmnaaDoor.PRef
set_option linter.unusedVariables false
theorem built8 (a0 a1 a2 a3 a4 a5 a6 a7 : Int) : Tryd.prog.built 104 [(0, .int .u32 a0), (1, .int .u32 a1), (2, .int .u32 a2), (3, .int .u32 a3), (4, .int .u32 a4), (5, .int .u32 a5), (6, .int .u32 a6), (7, .int .u32 a7)] = some (nums .u32 [a0, a1, a2, a3, a4, a5, a6, a7]).toArray := by kernel_rfl
section
variable {ops : Array Oper} {rest : List Oper} {o : Oper} {a : Act} {w : World} {Q : Exit → Act → World → Prop}
theorem wpList_build8 (hg : o.guard = none) (x0 x1 x2 x3 x4 x5 x6 x7 : Operand) (ho : o.op = .build 104 #[(0, x0), (1, x1), (2, x2), (3, x3), (4, x4), (5, x5), (6, x6), (7, x7)]) (a0 a1 a2 a3 a4 a5 a6 a7 : Int)
    (h0 : a.eval x0 = .int .u32 a0) (h1 : a.eval x1 = .int .u32 a1) (h2 : a.eval x2 = .int .u32 a2) (h3 : a.eval x3 = .int .u32 a3) (h4 : a.eval x4 = .int .u32 a4) (h5 : a.eval x5 = .int .u32 a5) (h6 : a.eval x6 = .int .u32 a6) (h7 : a.eval x7 = .int .u32 a7)
    (h : wpList Tryd.prog ops Q rest (a.put o.dst (.agg (nums .u32 [a0, a1, a2, a3, a4, a5, a6, a7]).toArray)) w) : wpList Tryd.prog ops Q (o :: rest) a w := by
  have e : ((#[(0, x0), (1, x1), (2, x2), (3, x3), (4, x4), (5, x5), (6, x6), (7, x7)] : Array (Nat × Operand)).map fun (i, x) => (i, a.eval x)).toList = [(0, .int .u32 a0), (1, .int .u32 a1), (2, .int .u32 a2), (3, .int .u32 a3), (4, .int .u32 a4), (5, .int .u32 a5), (6, .int .u32 a6), (7, .int .u32 a7)] := by
    rw [Array.toList_map]; simp [h0, h1, h2, h3, h4, h5, h6, h7]
  refine wpList_build hg _ _ ho (by rw [e, built8]; rfl) ?_
  rw [e, built8]
  exact h
end
end Go.Proofs.YtipapffpfggmnaaDoor
namespace Go.Proofs.YtipapffpfggmnaaDoor
open Go.RowKit Go.Proofs.YtipapffpfggmnaaDoorW.PrintWords Go.Proofs.YtipapffpfggmnaaDoorW.PrintLast Go.Proofs.YtipapffpfggmnaaDoorW.PrintMore Go.Proofs.YtipapffpfggmnaaDoor.PRef
set_option linter.unusedVariables false
def wIn (blk : List Int) (i : Int) : Int := bits .or .u32 (bits .or .u32 (bits .or .u32 (rd blk (4 * i) % 4294967296 * 16777216 % 4294967296) (rd blk (4 * i + 1) % 4294967296 * 65536 % 4294967296)) (rd blk (4 * i + 2) % 4294967296 * 256 % 4294967296)) (rd blk (4 * i + 3) % 4294967296)
def wEx (W : List Int) (k : Nat) : Int := (rd W ((k - 16 : Nat) : Int) + bits .xor .u32 (bits .xor .u32 (rotI (rd W ((k - 15 : Nat) : Int)) 7) (rotI (rd W ((k - 15 : Nat) : Int)) 18)) (rd W ((k - 15 : Nat) : Int) / 8) + rd W ((k - 7 : Nat) : Int) + bits .xor .u32 (bits .xor .u32 (rotI (rd W ((k - 2 : Nat) : Int)) 17) (rotI (rd W ((k - 2 : Nat) : Int)) 19)) (rd W ((k - 2 : Nat) : Int) / 1024)) % 4294967296
def wAt (blk W : List Int) (k : Nat) : Int := if k < 16 then wIn blk k else wEx W k
def WTo (blk : List Int) : Nat → List Int
  | 0 => List.replicate 64 0
  | k + 1 => (WTo blk k).set k (wAt blk (WTo blk k) k)
theorem WTo_len (blk : List Int) : ∀ k, (WTo blk k).length = 64
  | 0 => rfl
  | k + 1 => by rw [WTo, List.length_set]; exact WTo_len blk k
theorem nums_set (k : IntKind) (l : List Int) (i : Nat) (v : Int) : (nums k l).toArray.setIfInBounds i (.int k v) = (nums k (l.set i v)).toArray := by
  unfold nums; simp [List.map_set]
structure InvW (w : World) (st blk : List Int) (k : Nat) (wr : World) : Prop where
  h0 : wr.heap[w.heap.size]? = some (.cells (nums .u32 st).toArray 104 (0, 0))
  h1 : wr.heap[w.heap.size + 1]? = some (.cells (nums .u8 blk).toArray 80 (0, 0))
  h2 : ∃ c, wr.heap[w.heap.size + 1 + 1]? = some (.cells c 104 (0, 0)) ∧ c.size = 8
  h3 : wr.heap[w.heap.size + 1 + 1 + 1]? = some (.cells (nums .u32 (WTo blk k)).toArray 125 (0, 0))
  hB : Below w.heap.size w wr
theorem drew_heap {w : World} {g : Nat} {o : Obj} (h : w.heap[g]? = some o) : w.drew.heap[g]? = some o := h
theorem below_drew0 {B : Nat} {w W : World} (h : Below B w W) : Below B w W.drew := ⟨h.os, h.tape, h.output, h.size, h.block⟩
theorem InvW.next {w : World} {st blk : List Int} {k : Nat} {wr W : World} (h : InvW w st blk k wr) (hW : W.heap = wr.heap) (hB : Below w.heap.size w W) {v : Int} (hv : v = wAt blk (WTo blk k) k) :
    InvW w st blk (k + 1) (W.setCell ⟨w.heap.size + 1 + 1 + 1, k, none⟩ (.int .u32 v)) := by
  subst hv
  obtain ⟨c, hc, hs⟩ := h.h2
  rw [← hW] at hc
  refine ⟨blk_far (by rw [hW]; exact h.h0) (by show _ ≠ _; simp <;> omega) _, blk_far (by rw [hW]; exact h.h1) (by show _ ≠ _; simp <;> omega) _, ⟨c, blk_far hc (by show _ ≠ _; simp) _, hs⟩, ?_, hB.setCell (by show w.heap.size ≤ w.heap.size + 1 + 1 + 1; omega) _⟩
  have := blk_set (by rw [hW]; exact h.h3) k (.int .u32 (wAt blk (WTo blk k) k))
  rw [nums_set] at this
  exact this
theorem InvW.drew {w : World} {st blk : List Int} {k : Nat} {wr : World} (h : InvW w st blk k wr) : InvW w st blk k wr.drew := ⟨h.h0, h.h1, h.h2, h.h3, below_drew0 h.hB⟩
theorem InvW.drewN {w : World} {st blk : List Int} {k : Nat} {wr : World} (h : InvW w st blk k wr) (n : Nat) : InvW w st blk k (wr.drewN n) := ⟨h.h0, h.h1, h.h2, h.h3, pw_below_drewN h.hB n⟩
theorem rotP_still (x n : Int) (h : 0 < n ∧ n < 32) (w : World) : Calls Tryd.prog 76 #[.int .u32 x, .int .i64 n] w fun e w' => e = .returned (.int .u32 (rotI x n)) ∧ w' = w := (rotP_any x n h w).mono fun _ _ h => ⟨h.1, h.2.symm⟩
theorem i8 : (Tryd.prog.info? 104).map (·.size) = some 8 := by kernel_rfl
theorem oneCell_nums (k : IntKind) (l : List Int) : (nums k l).toArray.all (·.oneCell') = true := by
  rw [List.all_toArray, List.all_eq_true]
  intro x hx
  obtain ⟨y, _, rfl⟩ := List.mem_map.1 hx
  rfl
theorem cell_nums {w : World} {g : Nat} {k : IntKind} {l : List Int} {t : TypeId} (h : w.heap[g]? = some (.cells (nums k l).toArray t (0, 0))) (i : Nat) (hi : i < l.length) : w.cell? ⟨g, i, none⟩ = some (.int k (rd l i)) := by
  rw [blk_cell h i]
  unfold rd nums
  rw [List.getElem?_toArray, List.getElem?_map, Int.toNat_natCast, List.getElem?_eq_getElem hi, List.getD_eq_getElem?_getD, List.getElem?_eq_getElem hi]
  rfl
structure Inv2 (w : World) (st W S : List Int) (n4 : Nat) (wr : World) : Prop where
  h0 : wr.heap[w.heap.size]? = some (.cells (nums .u32 st).toArray 104 (0, 0))
  h2 : ∃ c, wr.heap[w.heap.size + 1 + 1]? = some (.cells c 104 (0, 0)) ∧ c.size = 8
  h3 : wr.heap[w.heap.size + 1 + 1 + 1]? = some (.cells (nums .u32 W).toArray 125 (0, 0))
  h4 : wr.heap[n4]? = some (.cells (nums .u32 S).toArray 104 (0, 0))
  hn : w.heap.size + 4 ≤ n4
  hs : S.length = 8
  hB : Below w.heap.size w wr
theorem Inv2.drew {w : World} {st W S : List Int} {n4 : Nat} {wr : World} (h : Inv2 w st W S n4 wr) : Inv2 w st W S n4 wr.drew := ⟨h.h0, h.h2, h.h3, h.h4, h.hn, h.hs, below_drew0 h.hB⟩
theorem Inv2.drewN {w : World} {st W S : List Int} {n4 : Nat} {wr : World} (h : Inv2 w st W S n4 wr) (n : Nat) : Inv2 w st W S n4 (wr.drewN n) := ⟨h.h0, h.h2, h.h3, h.h4, h.hn, h.hs, pw_below_drewN h.hB n⟩
theorem Inv2.row {w : World} {st W S : List Int} {n4 : Nat} {wr : World} (h : Inv2 w st W S n4 wr) {S' : List Int} (hS : S'.length = 8) : Inv2 w st W S' n4 (wr.setRow n4 (nums .u32 S').toArray) := by
  obtain ⟨c, hc, hs⟩ := h.h2
  have hn := h.hn
  exact ⟨(setRow_other _ _ _ _ (by omega)).trans h.h0, ⟨c, (setRow_other _ _ _ _ (by omega)).trans hc, hs⟩, (setRow_other _ _ _ _ (by omega)).trans h.h3, setRow_heap _ _ _ _ _ _ h.h4, h.hn, hS, below_setRow h.hB (by omega) _⟩
/-- The constants of the rounds. -/
def KTab : List Int := [1116352408, 1899447441, 3049323471, 3921009573, 961987163, 1508970993, 2453635748, 2870763221, 3624381080, 310598401, 607225278, 1426881987, 1925078388, 2162078206, 2614888103, 3248222580, 3835390401, 4022224774, 264347078, 604807628, 770255983, 1249150122, 1555081692, 1996064986, 2554220882, 2821834349, 2952996808, 3210313671, 3336571891, 3584528711, 113926993, 338241895, 666307205, 773529912, 1294757372, 1396182291, 1695183700, 1986661051, 2177026350, 2456956037, 2730485921, 2820302411, 3259730800, 3345764771, 3516065817, 3600352804, 4094571909, 275423344, 430227734, 506948616, 659060556, 883997877, 958139571, 1322822218, 1537002063, 1747873779, 1955562222, 2024104815, 2227730452, 2361852424, 2428436474, 2756734187, 3204031479, 3329325298]
def LaidK (w : World) : Prop := ∀ j : Nat, j < 64 → w.cell? ⟨1, j, none⟩ = some (.int .u32 (rd KTab j))
theorem LaidK.below {w W : World} (h : LaidK w) (hb : Below w.heap.size w W) : LaidK W := fun j hj => pw_cell_below hb (h j hj)
def cT (S W : List Int) (k : Nat) : Int := rd S 7 + bits .xor .u32 (bits .xor .u32 (rotI (rd S 4) 6) (rotI (rd S 4) 11)) (rotI (rd S 4) 25) + bits .xor .u32 (bits .and .u32 (rd S 4) (rd S 5)) (bits .and .u32 (bits .xor .u32 IntKind.u32.max (rd S 4)) (rd S 6)) + rd KTab k + rd W k
def cU (S : List Int) : Int := bits .xor .u32 (bits .xor .u32 (rotI (rd S 0) 2) (rotI (rd S 0) 13)) (rotI (rd S 0) 22) + bits .xor .u32 (bits .xor .u32 (bits .and .u32 (rd S 0) (rd S 1)) (bits .and .u32 (rd S 0) (rd S 2))) (bits .and .u32 (rd S 1) (rd S 2))
def cStep (W : List Int) (k : Nat) (S : List Int) : List Int := [(cT S W k + cU S) % 4294967296, rd S 0, rd S 1, rd S 2, (rd S 3 + cT S W k) % 4294967296, rd S 4, rd S 5, rd S 6]
/-- The state added to what was there. -/
def FTo (st S : List Int) : Nat → List Int
  | 0 => S
  | k + 1 => (FTo st S k).set k ((rd (FTo st S k) k + rd st k) % 4294967296)
theorem Inv2.cell {w : World} {st W S : List Int} {n4 : Nat} {wr : World} (h : Inv2 w st W S n4 wr) (i : Nat) (v : Int) : Inv2 w st W (S.set i v) n4 (wr.setCell ⟨n4, i, none⟩ (.int .u32 v)) := by
  obtain ⟨c, hc, hs⟩ := h.h2
  have hn := h.hn
  have h4 := blk_set h.h4 i (.int .u32 v)
  rw [nums_set] at h4
  exact ⟨blk_far h.h0 (by show _ ≠ n4; omega) _, ⟨c, blk_far hc (by show _ ≠ n4; omega) _, hs⟩, blk_far h.h3 (by show _ ≠ n4; omega) _, h4, h.hn, by rw [List.length_set]; exact h.hs, h.hB.setCell (by show w.heap.size ≤ n4; omega) _⟩
def STo (st W : List Int) : Nat → List Int
  | 0 => st
  | k + 1 => cStep W k (STo st W k)
/-- The state after a block. -/
def blkF (st blk : List Int) : List Int := FTo st (STo st (WTo blk 64) 64) 8
theorem STo_len (st W : List Int) (h : st.length = 8) : ∀ k, (STo st W k).length = 8
  | 0 => h
  | k + 1 => rfl
theorem FTo_len (st S : List Int) : ∀ k, (FTo st S k).length = S.length
  | 0 => rfl
  | k + 1 => by rw [FTo, List.length_set]; exact FTo_len st S k
theorem blkF_len (st blk : List Int) (h : st.length = 8) : (blkF st blk).length = 8 := by rw [blkF, FTo_len, STo_len _ _ h]
end Go.Proofs.YtipapffpfggmnaaDoor
namespace Go.Proofs.YtipapffpfggmnaaDoor
open Go.RowKit Go.Proofs.YtipapffpfggmnaaDoorW.PrintWords Go.Proofs.YtipapffpfggmnaaDoorW.PrintLast Go.Proofs.YtipapffpfggmnaaDoorW.PrintMore Go.Proofs.YtipapffpfggmnaaDoor.PRef
set_option linter.unusedVariables false
set_option maxHeartbeats 8000000 in
set_option maxRecDepth 100000 in
theorem Block_any (st blk : List Int) (w : World) (h8 : st.length = 8) (h64 : blk.length = 64) (hK : LaidK w) :
    Calls Tryd.prog 63 #[.agg (nums .u32 st).toArray, .agg (nums .u8 blk).toArray] w fun e w' => e = .returned (.agg (nums .u32 (blkF st blk)).toArray) ∧ Below w.heap.size w w' := by
  have H8 := Lib.hid h8
  have H64 := Lib.hid h64
  have HLK := Lib.hid hK
  clear h8 h64 hK
  go_enter Tryd.func63, Tryd.ntmps63
  go_wp2_with fail
  go_loopw [16] (fun i wr => ∃ k : Nat, k ≤ 64 ∧ i = .int .i64 (k : Int) ∧ InvW w st blk k wr) (fun i _ => 64 - (intOf i).toNat)
  case atStart =>
    refine ⟨0, by omega, rfl, ?_, ?_, ⟨#[.int .u32 0, .int .u32 0, .int .u32 0, .int .u32 0, .int .u32 0, .int .u32 0, .int .u32 0, .int .u32 0], ?_, rfl⟩, ?_, ?_⟩
    · show _ = _
      rw [heap_alloc_old _ _ (by simp; omega), heap_alloc_old _ _ (by simp; omega), heap_alloc_old _ _ (by simp), heap_alloc_last]
    · have h := heap_alloc_last (w.alloc (.cells (nums .u32 st).toArray 104)) (.cells (nums .u8 blk).toArray 80)
      rw [World.size_alloc] at h
      show _ = _
      rw [heap_alloc_old _ _ (by simp), heap_alloc_old _ _ (by simp), h]
    · have h := heap_alloc_last ((w.alloc (.cells (nums .u32 st).toArray 104)).alloc (.cells (nums .u8 blk).toArray 80)) (.cells #[.int .u32 0, .int .u32 0, .int .u32 0, .int .u32 0, .int .u32 0, .int .u32 0, .int .u32 0, .int .u32 0] 104)
      rw [World.size_alloc, World.size_alloc] at h
      rw [heap_alloc_old _ _ (by simp), h]
    · have h := fun o => heap_alloc_last (((w.alloc (.cells (nums .u32 st).toArray 104)).alloc (.cells (nums .u8 blk).toArray 80)).alloc (.cells #[.int .u32 0, .int .u32 0, .int .u32 0, .int .u32 0, .int .u32 0, .int .u32 0, .int .u32 0, .int .u32 0] 104)) o
      simp only [World.size_alloc] at h
      exact h _
    · exact (((below_alloc (Below.refl _ _) _).alloc (by simp) _).alloc (by simp; omega) _).alloc (by simp; omega) _
  case round =>
    obtain ⟨k, hk, rfl, hI⟩ := hrel
    have HI := Lib.hid hI
    clear hI
    by_cases hlt : k < 64
    · have q4 := cell_nums HI.out.h3 k (by rw [WTo_len]; exact hlt)
      have f4 := blk_frozen HI.out.h3 k
      by_cases h16 : k < 16
      · have q0 := cell_nums HI.out.h1 (4 * k) (by have := H64.out; omega)
        have q1 := cell_nums HI.out.h1 (4 * k + 1) (by have := H64.out; omega)
        have q2 := cell_nums HI.out.h1 (4 * k + 2) (by have := H64.out; omega)
        have q3 := cell_nums HI.out.h1 (4 * k + 3) (by have := H64.out; omega)
        have n0 : (4 * (k : Int)).toNat = 4 * k := by omega
        have n1 : (4 * (k : Int) + 1).toNat = 4 * k + 1 := by omega
        have n2 : (4 * (k : Int) + 2).toNat = 4 * k + 2 := by omega
        have n3 : (4 * (k : Int) + 3).toNat = 4 * k + 3 := by omega
        have b0 : (0 : Int) ≤ 4 * (k : Int) := by omega
        have b1 : (0 : Int) ≤ 4 * (k : Int) + 1 := by omega
        have b2 : (0 : Int) ≤ 4 * (k : Int) + 2 := by omega
        have b3 : (0 : Int) ≤ 4 * (k : Int) + 3 := by omega
        have c0 : 4 * (k : Int) < 64 := by omega
        have c1 : 4 * (k : Int) + 1 < 64 := by omega
        have c2 : 4 * (k : Int) + 2 < 64 := by omega
        have c3 : 4 * (k : Int) + 3 < 64 := by omega
        have e0 : IntKind.i64.wrap (4 * (k : Int)) = 4 * (k : Int) := IntWalk.i64_in _ (by omega)
        have e1 : IntKind.i64.wrap (4 * (k : Int) + 1) = 4 * (k : Int) + 1 := IntWalk.i64_in _ (by omega)
        have e2 : IntKind.i64.wrap (4 * (k : Int) + 2) = 4 * (k : Int) + 2 := IntWalk.i64_in _ (by omega)
        have e3 : IntKind.i64.wrap (4 * (k : Int) + 3) = 4 * (k : Int) + 3 := IntWalk.i64_in _ (by omega)
        go_wp2_with fail
        go_still_tail 31, (by kernel_rfl)
        go_wp2_with fail
        go_roundw
        case rel => exact ⟨k + 1, by omega, by go_num, (HI.out.next rfl HI.out.hB (by unfold wAt; rw [if_pos h16]; rfl)).drew⟩
        case measure => simp [intOf]; omega
      · have q0 := cell_nums HI.out.h3 (k - 15) (by rw [WTo_len]; omega)
        have q1 := cell_nums HI.out.h3 (k - 2) (by rw [WTo_len]; omega)
        have q2 := cell_nums HI.out.h3 (k - 16) (by rw [WTo_len]; omega)
        have q3 := cell_nums HI.out.h3 (k - 7) (by rw [WTo_len]; omega)
        have n0 : ((k : Int) - 15).toNat = k - 15 := by omega
        have n1 : ((k : Int) - 2).toNat = k - 2 := by omega
        have n2 : ((k : Int) - 16).toNat = k - 16 := by omega
        have n3 : ((k : Int) - 7).toNat = k - 7 := by omega
        have d0 : (15 : Int) ≤ (k : Int) := by omega
        have d1 : (2 : Int) ≤ (k : Int) := by omega
        have d2 : (16 : Int) ≤ (k : Int) := by omega
        have d3 : (7 : Int) ≤ (k : Int) := by omega
        have b0 : (0 : Int) ≤ (k : Int) - 15 := by omega
        have b1 : (0 : Int) ≤ (k : Int) - 2 := by omega
        have b2 : (0 : Int) ≤ (k : Int) - 16 := by omega
        have b3 : (0 : Int) ≤ (k : Int) - 7 := by omega
        have c0 : (k : Int) - 15 < 64 := by omega
        have c1 : (k : Int) - 2 < 64 := by omega
        have c2 : (k : Int) - 16 < 64 := by omega
        have c3 : (k : Int) - 7 < 64 := by omega
        have e0 : IntKind.i64.wrap ((k : Int) - 15) = (k : Int) - 15 := IntWalk.i64_in _ (by omega)
        have e1 : IntKind.i64.wrap ((k : Int) - 2) = (k : Int) - 2 := IntWalk.i64_in _ (by omega)
        have e2 : IntKind.i64.wrap ((k : Int) - 16) = (k : Int) - 16 := IntWalk.i64_in _ (by omega)
        have e3 : IntKind.i64.wrap ((k : Int) - 7) = (k : Int) - 7 := IntWalk.i64_in _ (by omega)
        go_wp2_with fail
        go_quiet (fail)
        have HQ := Lib.hid (HI.out.drewN nq)
        clear HI q0 q1 q2 q3 q4 f4
        generalize wr.drewN nq = wq at *
        have q2 := cell_nums HQ.out.h3 (k - 16) (by rw [WTo_len]; omega)
        have q3 := cell_nums HQ.out.h3 (k - 7) (by rw [WTo_len]; omega)
        have q4 := cell_nums HQ.out.h3 k (by rw [WTo_len]; exact hlt)
        have f4 := blk_frozen HQ.out.h3 k
        go_wp2_with fail
        go_still_tail 29, (by kernel_rfl)
        still_call (rotP_still _ 7 (by decide) _)
        repeat still_step
        still_call (rotP_still _ 18 (by decide) _)
        repeat still_step
        still_call (rotP_still _ 17 (by decide) _)
        repeat still_step
        still_call (rotP_still _ 19 (by decide) _)
        repeat still_step
        refine wpStill_nil ?_
        go_wp2_with fail
        go_roundw
        case rel => exact ⟨k + 1, by omega, by go_num, (HQ.out.next rfl HQ.out.hB (by unfold wAt; rw [if_neg h16]; rfl)).drew⟩
        case measure => simp [intOf]; omega
    · have hk64 : k = 64 := by omega
      have hge : ¬ ((k : Int) < 64) := by omega
      have HK := Lib.hid hk64
      clear hlt hk hk64
      have hi0 : (Tryd.prog.info? 104).map (·.size) = some (nums .u32 st).toArray.size := by
        have e : (nums .u32 st).toArray.size = 8 := by rw [List.size_toArray, nums_length]; exact H8.out
        rw [e]; exact i8
      have hg0 := Lib.hid HI.out.h0
      have hi1 := Lib.hid hi0
      have ha := Lib.hid (oneCell_nums .u32 st)
      clear hi0
      have hz := Lib.hid (show (8 : Nat) = (nums .u32 st).toArray.size by rw [List.size_toArray, nums_length]; exact H8.out.symm)
      go_wp2_with (first | ((with_reducible refine gate_dst (N := 90) rfl ?_); (refine wpList_load_row rfl 104 _ rfl _ rfl 104 _ (0, 0) _ hg0.out Tryd.underlying104 rfl hi1.out ?_)) | ((with_reducible refine gate_store (t := 104) (p := 9) rfl ?_); (refine wpList_store_row rfl 104 _ _ rfl _ _ rfl rfl 104 _ (heap_alloc_last _ _) hi1.out hz.out ha.out ?_); rw [World.setRow_alloc_new]))
      obtain ⟨n4, hn4⟩ : ∃ n, n = wr.heap.size := ⟨_, rfl⟩
      have hI2 : Inv2 w st (WTo blk k) st n4 (wr.alloc (.cells (nums .u32 st).toArray 104)) := by
        have h := HI.out
        have hlt := blk_lt h.h3
        obtain ⟨c, hc, hs⟩ := h.h2
        subst hn4
        exact ⟨(heap_alloc_old _ _ (blk_lt h.h0)).trans h.h0, ⟨c, (heap_alloc_old _ _ (blk_lt hc)).trans hc, hs⟩, (heap_alloc_old _ _ hlt).trans h.h3, heap_alloc_last _ _, by omega, H8.out, h.hB.alloc h.hB.size _⟩
      rw [← hn4]
      have HI2 := Lib.hid hI2
      clear hI2 HI hg0 hi1 ha hz hn4
      generalize wr.alloc (.cells (nums .u32 st).toArray 104) = w2 at *
      have hwl : (WTo blk k).length = 64 := WTo_len _ _
      rw [HK.out] at hwl
      have hwk : WTo blk k = WTo blk 64 := by rw [HK.out]
      rw [hwk] at HI2
      obtain ⟨W, hW⟩ : ∃ W, W = WTo blk 64 := ⟨_, rfl⟩
      rw [← hW] at HI2 hwl
      have HW := Lib.hid hW
      have HWL := Lib.hid hwl
      clear hW hwl hwk
      clear hge
      go_loopw [91] (fun i wr => ∃ j : Nat, j ≤ 64 ∧ i = .int .i64 (j : Int) ∧ Inv2 w st W (STo st W j) n4 wr) (fun i _ => 64 - (intOf i).toNat)
      case atStart => exact ⟨0, by omega, rfl, HI2.out⟩
      case round =>
        obtain ⟨j, hj, rfl, hI⟩ := hrel
        have HI := Lib.hid hI
        clear hI
        by_cases hlt : j < 64
        · have q0 := cell_nums HI.out.h4 0 (by rw [HI.out.hs]; decide)
          have q4 := cell_nums HI.out.h4 4 (by rw [HI.out.hs]; decide)
          go_wp2_with fail
          go_quiet (fail)
          have HQ := Lib.hid (HI.out.drewN nq)
          clear HI q0 q4
          generalize wr.drewN nq = wq at *
          have q1 := cell_nums HQ.out.h4 1 (by rw [HQ.out.hs]; decide)
          have q2 := cell_nums HQ.out.h4 2 (by rw [HQ.out.hs]; decide)
          have q3 := cell_nums HQ.out.h4 3 (by rw [HQ.out.hs]; decide)
          have q5 := cell_nums HQ.out.h4 5 (by rw [HQ.out.hs]; decide)
          have q6 := cell_nums HQ.out.h4 6 (by rw [HQ.out.hs]; decide)
          have q7 := cell_nums HQ.out.h4 7 (by rw [HQ.out.hs]; decide)
          have qw := cell_nums HQ.out.h3 j (by rw [HWL.out]; exact hlt)
          have qk := HLK.out.below HQ.out.hB j hlt
          go_wp2_with fail
          go_quiet ((go_at_call 76; exact Calls.quiet_of_same (rotP_still _ _ (by decide) _)))
          clear q1 q2 q3 q5 q6 q7 qw qk
          have HQ2 := Lib.hid (HQ.out.drewN nq)
          clear HQ
          generalize wq.drewN nq = wq2 at *
          have q1 := cell_nums HQ2.out.h4 1 (by rw [HQ2.out.hs]; decide)
          have q2 := cell_nums HQ2.out.h4 2 (by rw [HQ2.out.hs]; decide)
          go_wp2_with fail
          go_quiet ((go_at_call 76; exact Calls.quiet_of_same (rotP_still _ _ (by decide) _)))
          clear q1 q2
          have HQ3 := Lib.hid (HQ2.out.drewN nq)
          clear HQ2
          generalize wq2.drewN nq = wq3 at *
          have q0 := cell_nums HQ3.out.h4 0 (by rw [HQ3.out.hs]; decide)
          have q1 := cell_nums HQ3.out.h4 1 (by rw [HQ3.out.hs]; decide)
          have q2 := cell_nums HQ3.out.h4 2 (by rw [HQ3.out.hs]; decide)
          have q3 := cell_nums HQ3.out.h4 3 (by rw [HQ3.out.hs]; decide)
          have q4 := cell_nums HQ3.out.h4 4 (by rw [HQ3.out.hs]; decide)
          have q5 := cell_nums HQ3.out.h4 5 (by rw [HQ3.out.hs]; decide)
          have q6 := cell_nums HQ3.out.h4 6 (by rw [HQ3.out.hs]; decide)
          have hi8 := Lib.hid i8
          go_wp2_with (first | ((with_reducible refine gate_dst (N := 169) rfl ?_); (refine wpList_build8 rfl _ _ _ _ _ _ _ _ rfl _ _ _ _ _ _ _ _ rfl rfl rfl rfl rfl rfl rfl rfl ?_)) | ((with_reducible refine gate_store (t := 104) (p := 9) rfl ?_); (refine wpList_store_row rfl 104 _ _ rfl _ _ rfl rfl 104 _ HQ3.out.h4 hi8.out ?hsz (oneCell_nums _ _) ?_)))
          case hsz => rw [List.size_toArray, nums_length, HQ3.out.hs]; rfl
          go_roundw
          case rel => exact ⟨j + 1, by omega, by go_num, HQ3.out.row (S' := cStep W j (STo st W j)) rfl⟩
          case measure => simp [intOf]; omega
        · have hge : ¬ ((j : Int) < 64) := by omega
          have hj64 : j = 64 := by omega
          have HJ := Lib.hid hj64
          clear hj hlt hj64 HI2
          go_wp2_with fail
          clear hge
          obtain ⟨S, hS⟩ : ∃ S, S = STo st W j := ⟨_, rfl⟩
          rw [← hS] at HI
          have HS := Lib.hid hS
          clear hS
          obtain ⟨wo, rfl⟩ : ∃ x, x = wr := ⟨wr, rfl⟩
          go_loopw [171] (fun i wr => ∃ j : Nat, j ≤ 8 ∧ i = .int .i64 (j : Int) ∧ Inv2 w st W (FTo st S j) n4 wr) (fun i _ => 8 - (intOf i).toNat)
          case atStart => exact ⟨0, by omega, rfl, HI.out⟩
          case round =>
            obtain ⟨i, hi, rfl, hI⟩ := hrel
            have HI3 := Lib.hid hI
            clear hI
            by_cases hlt : i < 8
            · have q0 := cell_nums HI3.out.h4 i (by rw [HI3.out.hs]; exact hlt)
              have f0 := blk_frozen HI3.out.h4 i
              have q1 := cell_nums HI3.out.h0 i (by rw [H8.out]; exact hlt)
              go_wp2_with fail
              go_still_tail 8, (by kernel_rfl)
              go_wp2_with fail
              go_roundw
              case rel => exact ⟨i + 1, by omega, by go_num, (HI3.out.cell i _).drew⟩
              case measure => simp [intOf]; omega
            · have hge : ¬ ((i : Int) < 8) := by omega
              have hi8' : i = 8 := by omega
              have HI8 := Lib.hid hi8'
              have hii := Lib.hid i8
              clear hi hlt hi8'
              obtain ⟨c, hc, hcs⟩ := HI3.out.h2
              have HC := Lib.hid hc
              have HCS := Lib.hid hcs
              have hsz := Lib.hid (show (nums .u32 (FTo st S i)).toArray.size = 8 by rw [List.size_toArray, nums_length]; exact HI3.out.hs)
              have hii2 := Lib.hid (show (Tryd.prog.info? 104).map (·.size) = some (nums .u32 (FTo st S i)).toArray.size by rw [hsz.out]; exact i8)
              clear hc hcs
              go_wp2_with (first | ((with_reducible refine gate_dst (N := 183) rfl ?_); (refine wpList_load_row rfl 104 _ rfl _ rfl 104 _ (0, 0) _ HI3.out.h4 Tryd.underlying104 rfl hii2.out ?_)) | ((with_reducible refine gate_store (t := 104) (p := 4) rfl ?_); (refine wpList_store_row rfl 104 _ _ rfl _ _ rfl rfl 104 _ HC.out hii2.out (HCS.out.trans hsz.out.symm) (oneCell_nums _ _) ?_)))
              refine bodyPost_ret (v := .agg (nums .u32 (FTo st S i)).toArray) (results_cell_row Tryd.results63 _ _ _ _ _ (0, 0) _ rfl (setRow_heap _ _ _ _ _ _ HC.out) Tryd.underlying104 rfl hii2.out) rfl ⟨?_, below_setRow HI3.out.hB (by omega) _⟩
              rw [HI8.out, HS.out, HJ.out, HW.out]; rfl
end Go.Proofs.YtipapffpfggmnaaDoor
namespace Go.Proofs.YtipapffpfggmnaaDoor
open Go.RowKit Go.Proofs.YtipapffpfggmnaaDoorW.PrintWords Go.Proofs.YtipapffpfggmnaaDoorW.PrintLast Go.Proofs.YtipapffpfggmnaaDoorW.PrintMore Go.Proofs.YtipapffpfggmnaaDoor.PRef
set_option linter.unusedVariables false
/-- All are bytes. -/
def Bytes (l : List Int) : Prop := ∀ x ∈ l, 0 ≤ x ∧ x < 256
theorem rd_mem {l : List Int} {i : Nat} (h : i < l.length) : rd l (i : Int) ∈ l := by
  unfold rd
  rw [Int.toNat_natCast, List.getD_eq_getElem?_getD, List.getElem?_eq_getElem h]
  exact List.getElem_mem h
theorem rd_byte {l : List Int} (hl : Bytes l) {i : Nat} (h : i < l.length) : 0 ≤ rd l (i : Int) ∧ rd l (i : Int) < 256 := hl _ (rd_mem h)
theorem rd_set_self {l : List Int} {i : Nat} (h : i < l.length) (v : Int) : rd (l.set i v) (i : Int) = v := by
  unfold rd
  rw [Int.toNat_natCast, List.getD_eq_getElem?_getD, List.getElem?_set_self h]; rfl
theorem rd_set_ne {l : List Int} {i j : Nat} (h : i ≠ j) (v : Int) : rd (l.set i v) (j : Int) = rd l (j : Int) := by
  unfold rd
  rw [Int.toNat_natCast, List.getD_eq_getElem?_getD, List.getElem?_set_ne h, List.getD_eq_getElem?_getD]
/-- The bytes of a word, as they are gathered. -/
def pTo (blk : List Int) (i : Nat) : Nat → Int
  | 0 => 0
  | k + 1 => (pTo blk i k * 256 + rd blk (4 * (i : Int) + (k : Int))) % 4294967296
theorem or_disj (a b j : Nat) (hb : b < 2 ^ j) (h : a * 2 ^ j + b < 4294967296) : bits .or .u32 ((a * 2 ^ j : Nat) : Int) ((b : Nat) : Int) = ((a * 2 ^ j + b : Nat) : Int) := by
  have h2 : (2 : Nat) ^ 32 = 4294967296 := by decide
  rw [(bits_nat .u32 32 (by decide) (fun n h0 h1 => by rw [IntKind.wrap_u32]; omega) (a * 2 ^ j) b (by omega) (by omega)).2]
  rw [Nat.mul_comm a, ← Nat.two_pow_add_eq_or_of_lt hb]
theorem pTo_four (blk : List Int) (i : Nat) (b0 b1 b2 b3 : Nat) (h0 : rd blk (4 * (i : Int)) = b0) (h1 : rd blk (4 * (i : Int) + 1) = b1) (h2 : rd blk (4 * (i : Int) + 2) = b2) (h3 : rd blk (4 * (i : Int) + 3) = b3)
    (l0 : b0 < 256) (l1 : b1 < 256) (l2 : b2 < 256) (l3 : b3 < 256) : pTo blk i 4 = wIn blk i := by
  have e : pTo blk i 4 = ((((b0 * 256 + b1) * 256 + b2) * 256 + b3 : Nat) : Int) := by
    simp only [pTo]
    rw [show (4 * (i : Int) + ((0 : Nat) : Int)) = 4 * (i : Int) from by omega, show (4 * (i : Int) + ((1 : Nat) : Int)) = 4 * (i : Int) + 1 from rfl, show (4 * (i : Int) + ((2 : Nat) : Int)) = 4 * (i : Int) + 2 from rfl, show (4 * (i : Int) + ((3 : Nat) : Int)) = 4 * (i : Int) + 3 from rfl, h0, h1, h2, h3]
    omega
  rw [e]
  unfold wIn
  rw [h0, h1, h2, h3]
  have e0 : (b0 : Int) % 4294967296 * 16777216 % 4294967296 = ((b0 * 2 ^ 24 : Nat) : Int) := by omega
  have e1 : (b1 : Int) % 4294967296 * 65536 % 4294967296 = ((b1 * 2 ^ 16 : Nat) : Int) := by omega
  have e2 : (b2 : Int) % 4294967296 * 256 % 4294967296 = ((b2 * 2 ^ 8 : Nat) : Int) := by omega
  have e3 : (b3 : Int) % 4294967296 = ((b3 : Nat) : Int) := by omega
  rw [e0, e1, e2, e3, or_disj b0 (b1 * 2 ^ 16) 24 (by omega) (by omega)]
  rw [show b0 * 2 ^ 24 + b1 * 2 ^ 16 = (b0 * 256 + b1) * 2 ^ 16 from by omega, or_disj _ (b2 * 2 ^ 8) 16 (by omega) (by omega)]
  rw [show (b0 * 256 + b1) * 2 ^ 16 + b2 * 2 ^ 8 = ((b0 * 256 + b1) * 256 + b2) * 2 ^ 8 from by omega, or_disj _ b3 8 (by omega) (by omega)]
theorem pTo_word {blk : List Int} (hb : Bytes blk) (h64 : blk.length = 64) (i : Nat) (hi : i < 16) : pTo blk i 4 = wIn blk i := by
  have g := fun (j : Nat) (hj : j < 4) => rd_byte hb (i := 4 * i + j) (by omega)
  have g0 := g 0 (by omega)
  have g1 := g 1 (by omega)
  have g2 := g 2 (by omega)
  have g3 := g 3 (by omega)
  obtain ⟨b0, e0⟩ := Int.eq_ofNat_of_zero_le g0.1
  obtain ⟨b1, e1⟩ := Int.eq_ofNat_of_zero_le g1.1
  obtain ⟨b2, e2⟩ := Int.eq_ofNat_of_zero_le g2.1
  obtain ⟨b3, e3⟩ := Int.eq_ofNat_of_zero_le g3.1
  refine pTo_four blk i b0 b1 b2 b3 ?_ ?_ ?_ ?_ (by omega) (by omega) (by omega) (by omega)
  · rw [← e0]; congr 1
  · rw [← e1]; congr 1
  · rw [← e2]; congr 1
  · rw [← e3]; congr 1
theorem WTo_zero (blk : List Int) : ∀ (k j : Nat), k ≤ j → j < 64 → rd (WTo blk k) (j : Int) = 0
  | 0, j, _, hj => by
    unfold WTo rd
    rw [Int.toNat_natCast, List.getD_eq_getElem?_getD, List.getElem?_replicate, if_pos hj]; rfl
  | k + 1, j, h, hj => by rw [WTo, rd_set_ne (by omega)]; exact WTo_zero blk k j (by omega) hj
theorem set_rd {l : List Int} {i : Nat} (h : i < l.length) {v : Int} (hv : rd l (i : Int) = v) : l.set i v = l := by
  subst hv
  unfold rd
  rw [Int.toNat_natCast, List.getD_eq_getElem?_getD, List.getElem?_eq_getElem h]
  exact List.set_getElem_self h
theorem WTo_next {blk : List Int} (hb : Bytes blk) (h64 : blk.length = 64) (k : Nat) (hk : k < 16) : (WTo blk k).set k (pTo blk k 4) = WTo blk (k + 1) := by
  rw [WTo, wAt, if_pos hk, pTo_word hb h64 k hk]
theorem WTo_ext (blk : List Int) (k : Nat) (hk : ¬ k < 16) : (WTo blk k).set k (wEx (WTo blk k) k) = WTo blk (k + 1) := by rw [WTo, wAt, if_neg hk]
/-- The state, shifted from its end on. -/
def ShTo (S : List Int) : Nat → List Int
  | 0 => S
  | m + 1 => (ShTo S m).set (7 - m) (rd (ShTo S m) ((6 - m : Nat) : Int))
theorem ShTo_len (S : List Int) : ∀ m, (ShTo S m).length = S.length
  | 0 => rfl
  | m + 1 => by rw [ShTo, List.length_set]; exact ShTo_len S m
theorem eight_of {α : Type} : ∀ l : List α, l.length = 8 → ∃ a b c d e f g h, l = [a, b, c, d, e, f, g, h]
  | [a, b, c, d, e, f, g, h], _ => ⟨a, b, c, d, e, f, g, h, rfl⟩
theorem ShTo_step (W : List Int) (k : Nat) {S : List Int} (h : S.length = 8) : ((ShTo S 7).set 4 ((rd (ShTo S 7) ((4 : Nat) : Int) + cT S W k) % 4294967296)).set 0 ((cT S W k + cU S) % 4294967296) = cStep W k S := by
  unfold cStep
  generalize cT S W k = t
  generalize cU S = u
  obtain ⟨a, b, c, d, e, f, g, i, rfl⟩ := eight_of S h
  rfl
end Go.Proofs.YtipapffpfggmnaaDoor
namespace Go.Proofs.YtipapffpfggmnaaDoor
open Go.RowKit Go.Proofs.YtipapffpfggmnaaDoorW.PrintWords Go.Proofs.YtipapffpfggmnaaDoorW.PrintLast Go.Proofs.YtipapffpfggmnaaDoorW.PrintMore Go.Proofs.YtipapffpfggmnaaDoor.PRef
set_option linter.unusedVariables false
structure RInv (w : World) (st blk W : List Int) (wr : World) : Prop where
  h0 : wr.heap[w.heap.size]? = some (.cells (nums .u32 st).toArray 104 (0, 0))
  h1 : wr.heap[w.heap.size + 1]? = some (.cells (nums .u8 blk).toArray 80 (0, 0))
  h2 : wr.heap[w.heap.size + 1 + 1]? = some (.cells (nums .u32 KTab).toArray 125 (0, 0))
  h3 : ∃ c, wr.heap[w.heap.size + 1 + 1 + 1]? = some (.cells c 104 (0, 0)) ∧ c.size = 8
  h4 : wr.heap[w.heap.size + 1 + 1 + 1 + 1]? = some (.cells (nums .u32 W).toArray 125 (0, 0))
  hW : W.length = 64
  hB : Below w.heap.size w wr
section
variable {w : World} {st blk W : List Int} {wr : World}
theorem RInv.drew (h : RInv w st blk W wr) : RInv w st blk W wr.drew := ⟨h.h0, h.h1, h.h2, h.h3, h.h4, h.hW, below_drew0 h.hB⟩
theorem RInv.drewN (h : RInv w st blk W wr) (n : Nat) : RInv w st blk W (wr.drewN n) := ⟨h.h0, h.h1, h.h2, h.h3, h.h4, h.hW, pw_below_drewN h.hB n⟩
theorem RInv.cell (h : RInv w st blk W wr) (i : Nat) (v : Int) : RInv w st blk (W.set i v) (wr.setCell ⟨w.heap.size + 1 + 1 + 1 + 1, i, none⟩ (.int .u32 v)) := by
  obtain ⟨c, hc, hs⟩ := h.h3
  have h4 := blk_set h.h4 i (.int .u32 v)
  rw [nums_set] at h4
  exact ⟨blk_far h.h0 (by show _ ≠ w.heap.size + 1 + 1 + 1 + 1; omega) _, blk_far h.h1 (by show _ ≠ w.heap.size + 1 + 1 + 1 + 1; omega) _, blk_far h.h2 (by show _ ≠ w.heap.size + 1 + 1 + 1 + 1; omega) _, ⟨c, blk_far hc (by show _ ≠ w.heap.size + 1 + 1 + 1 + 1; omega) _, hs⟩, h4, by rw [List.length_set]; exact h.hW, h.hB.setCell (by show w.heap.size ≤ w.heap.size + 1 + 1 + 1 + 1; omega) _⟩
theorem RInv.of (h : RInv w st blk W wr) {W' : List Int} (e : W = W') : RInv w st blk W' wr := e ▸ h
end
theorem rotR_still (x n : Int) (h : 0 < n ∧ n < 32) (w : World) : Calls Tryd.prog 82 #[.int .u32 x, .int .u64 n] w fun e w' => e = .returned (.int .u32 (rotI x n)) ∧ w' = w := (rotR_any x n h w).mono fun _ _ h => ⟨h.1, h.2.symm⟩
structure RInv2 (w : World) (st blk W V : List Int) (n5 : Nat) (wr : World) : Prop where
  base : RInv w st blk W wr
  h5 : wr.heap[n5]? = some (.cells (nums .u32 V).toArray 104 (0, 0))
  hn : w.heap.size + 5 ≤ n5
  hV : V.length = 8
section
variable {w : World} {st blk W V : List Int} {n5 : Nat} {wr : World}
theorem RInv2.drew (h : RInv2 w st blk W V n5 wr) : RInv2 w st blk W V n5 wr.drew := ⟨h.base.drew, h.h5, h.hn, h.hV⟩
theorem RInv2.drewN (h : RInv2 w st blk W V n5 wr) (n : Nat) : RInv2 w st blk W V n5 (wr.drewN n) := ⟨h.base.drewN n, h.h5, h.hn, h.hV⟩
theorem RInv2.cell (h : RInv2 w st blk W V n5 wr) (i : Nat) (v : Int) : RInv2 w st blk W (V.set i v) n5 (wr.setCell ⟨n5, i, none⟩ (.int .u32 v)) := by
  obtain ⟨c, hc, hs⟩ := h.base.h3
  have hn := h.hn
  have h5 := blk_set h.h5 i (.int .u32 v)
  rw [nums_set] at h5
  exact ⟨⟨blk_far h.base.h0 (by show _ ≠ n5; omega) _, blk_far h.base.h1 (by show _ ≠ n5; omega) _, blk_far h.base.h2 (by show _ ≠ n5; omega) _, ⟨c, blk_far hc (by show _ ≠ n5; omega) _, hs⟩, blk_far h.base.h4 (by show _ ≠ n5; omega) _, h.base.hW, h.base.hB.setCell (by show w.heap.size ≤ n5; omega) _⟩, h5, hn, by rw [List.length_set]; exact h.hV⟩
end
theorem RInv2.of {w : World} {st blk W V V' : List Int} {n5 : Nat} {wr : World} (h : RInv2 w st blk W V n5 wr) (e : V = V') : RInv2 w st blk W V' n5 wr := e ▸ h
theorem ShTo_c (S : List Int) (c : Nat) (h0 : 0 < c) (h : c ≤ 7) : (ShTo S (7 - c)).set c (rd (ShTo S (7 - c)) ((c - 1 : Nat) : Int)) = ShTo S (7 - (c - 1)) := by
  have e : 7 - (c - 1) = (7 - c) + 1 := by omega
  rw [e, ShTo, show 7 - (7 - c) = c from by omega, show 6 - (7 - c) = c - 1 from by omega]
theorem cell_u {w : World} {g : Nat} {l : List Int} {t : TypeId} (h : w.heap[g]? = some (.cells (nums .u32 l).toArray t (0, 0))) (i : Nat) (hi : i < l.length) : ∃ v, v = rd l (i : Int) ∧ w.cell? ⟨g, i, none⟩ = some (.int .u32 v) := ⟨_, rfl, cell_nums h i hi⟩
set_option maxHeartbeats 8000000 in
set_option maxRecDepth 100000 in
theorem RBlock_any (st blk : List Int) (w : World) (h8 : st.length = 8) (h64 : blk.length = 64) (hb : Bytes blk) :
    Calls Tryd.prog 75 #[.agg (nums .u32 st).toArray, .agg (nums .u8 blk).toArray, .agg (nums .u32 KTab).toArray] w fun e w' => e = .returned (.agg (nums .u32 (blkF st blk)).toArray) ∧ Below w.heap.size w w' := by
  have H8 := Lib.hid h8
  have H64 := Lib.hid h64
  have HBY := Lib.hid hb
  clear h8 h64 hb
  go_enter Tryd.func75, Tryd.ntmps75
  go_wp2_with fail
  go_loopw [8] (fun i wr => ∃ k : Nat, k ≤ 16 ∧ i = .int .i64 (k : Int) ∧ RInv w st blk (WTo blk k) wr) (fun i _ => 16 - (intOf i).toNat)
  case atStart =>
    refine ⟨0, by omega, rfl, ?_, ?_, ?_, ⟨#[.int .u32 0, .int .u32 0, .int .u32 0, .int .u32 0, .int .u32 0, .int .u32 0, .int .u32 0, .int .u32 0], ?_, rfl⟩, ?_, rfl, ?_⟩
    · show _ = _
      rw [heap_alloc_old _ _ (by simp <;> omega), heap_alloc_old _ _ (by simp <;> omega), heap_alloc_old _ _ (by simp <;> omega), heap_alloc_old _ _ (by simp), heap_alloc_last]
    · have h := heap_alloc_last (w.alloc (.cells (nums .u32 st).toArray 104)) (.cells (nums .u8 blk).toArray 80)
      rw [World.size_alloc] at h
      show _ = _
      rw [heap_alloc_old _ _ (by simp <;> omega), heap_alloc_old _ _ (by simp), heap_alloc_old _ _ (by simp), h]
    · have h := heap_alloc_last ((w.alloc (.cells (nums .u32 st).toArray 104)).alloc (.cells (nums .u8 blk).toArray 80)) (.cells (nums .u32 KTab).toArray 125)
      rw [World.size_alloc, World.size_alloc] at h
      rw [heap_alloc_old _ _ (by simp), heap_alloc_old _ _ (by simp), h]
    · have h := fun o => heap_alloc_last (((w.alloc (.cells (nums .u32 st).toArray 104)).alloc (.cells (nums .u8 blk).toArray 80)).alloc (.cells (nums .u32 KTab).toArray 125)) o
      simp only [World.size_alloc] at h
      rw [heap_alloc_old _ _ (by simp), h]
    · have h := fun o o2 => heap_alloc_last ((((w.alloc (.cells (nums .u32 st).toArray 104)).alloc (.cells (nums .u8 blk).toArray 80)).alloc (.cells (nums .u32 KTab).toArray 125)).alloc o2) o
      simp only [World.size_alloc] at h
      exact h _ _
    · exact ((((below_alloc (Below.refl _ _) _).alloc (by simp) _).alloc (by simp <;> omega) _).alloc (by simp <;> omega) _).alloc (by simp <;> omega) _
  case round =>
    obtain ⟨k, hk, rfl, hI⟩ := hrel
    have HI := Lib.hid hI
    clear hI
    by_cases hlt : k < 16
    · have hlt' : decide ((k : Int) < 16) = true := by simp; omega
      go_wp2_with fail
      obtain ⟨wo, rfl⟩ : ∃ x, x = wr := ⟨wr, rfl⟩
      go_loopw [9] (fun i wr => ∃ m : Nat, m ≤ 4 ∧ i = .int .i64 (m : Int) ∧ RInv w st blk ((WTo blk k).set k (pTo blk k m)) wr) (fun i _ => 4 - (intOf i).toNat)
      case atStart => exact ⟨0, by omega, rfl, HI.out.of (set_rd (by rw [WTo_len]; omega) (WTo_zero blk k k (Nat.le_refl _) (by omega))).symm⟩
      case round =>
        obtain ⟨m, hm, rfl, hI⟩ := hrel
        have HI2 := Lib.hid hI
        clear hI
        by_cases hlt2 : m < 4
        · have q4 := cell_nums HI2.out.h4 k (by rw [HI2.out.hW]; omega)
          rw [rd_set_self (by rw [WTo_len]; omega)] at q4
          have f4 := blk_frozen HI2.out.h4 k
          have q0 := cell_nums HI2.out.h1 (4 * k + m) (by have := H64.out; omega)
          rw [show ((4 * k + m : Nat) : Int) = 4 * (k : Int) + (m : Int) from by omega] at q0
          have n0 : (4 * (k : Int) + (m : Int)).toNat = 4 * k + m := by omega
          have b0 : (0 : Int) ≤ 4 * (k : Int) + (m : Int) := by omega
          have c0 : 4 * (k : Int) + (m : Int) < 64 := by omega
          have e0 : IntKind.i64.wrap (4 * (k : Int)) = 4 * (k : Int) := IntWalk.i64_in _ (by omega)
          have e1 : IntKind.i64.wrap (4 * (k : Int) + (m : Int)) = 4 * (k : Int) + (m : Int) := IntWalk.i64_in _ (by omega)
          have g0 : (k : Int) < 64 := by omega
          go_wp2_with fail
          go_still_tail 14, (by kernel_rfl)
          go_wp2_with fail
          go_roundw
          case rel => exact ⟨m + 1, by omega, by go_num, ((HI2.out.cell k _).of (by rw [List.set_set]; rfl)).drew⟩
          case measure => simp [intOf]; omega
        · have hm4 : m = 4 := by omega
          have HM := Lib.hid hm4
          have hge : ¬ ((m : Int) < 4) := by omega
          clear hm hlt2 hm4
          go_wp2_with fail
          go_roundw
          case rel => exact ⟨k + 1, by omega, by go_num, HI2.out.of (by rw [HM.out]; exact WTo_next HBY.out H64.out k hlt)⟩
          case measure => simp [intOf]; omega
    · have hk16 : k = 16 := by omega
      have hge : ¬ ((k : Int) < 16) := by omega
      have HI16 := Lib.hid (HI.out.of (by rw [hk16] : WTo blk k = WTo blk 16))
      clear hlt hk hk16 HI
      go_wp2_with fail
      clear hge
      obtain ⟨wo, rfl⟩ : ∃ x, x = wr := ⟨wr, rfl⟩
      go_loopw [10] (fun i wr => ∃ k : Nat, 16 ≤ k ∧ k ≤ 64 ∧ i = .int .i64 (k : Int) ∧ RInv w st blk (WTo blk k) wr) (fun i _ => 64 - (intOf i).toNat)
      case atStart => exact ⟨16, by omega, by omega, rfl, HI16.out⟩
      case round =>
        obtain ⟨j, hj0, hj, rfl, hI⟩ := hrel
        have HI := Lib.hid hI
        clear hI
        by_cases hlt : j < 64
        · have h16 : ¬ j < 16 := by omega
          have hl := WTo_len blk j
          have q0 := cell_nums HI.out.h4 (j - 15) (by rw [hl]; omega)
          have q1 := cell_nums HI.out.h4 (j - 2) (by rw [hl]; omega)
          have q2 := cell_nums HI.out.h4 (j - 16) (by rw [hl]; omega)
          have q3 := cell_nums HI.out.h4 (j - 7) (by rw [hl]; omega)
          have q4 := cell_nums HI.out.h4 j (by rw [hl]; exact hlt)
          have f4 := blk_frozen HI.out.h4 j
          have n0 : ((j : Int) - 15).toNat = j - 15 := by omega
          have n1 : ((j : Int) - 2).toNat = j - 2 := by omega
          have n2 : ((j : Int) - 16).toNat = j - 16 := by omega
          have n3 : ((j : Int) - 7).toNat = j - 7 := by omega
          have d0 : (15 : Int) ≤ (j : Int) := by omega
          have d1 : (2 : Int) ≤ (j : Int) := by omega
          have d2 : (16 : Int) ≤ (j : Int) := by omega
          have d3 : (7 : Int) ≤ (j : Int) := by omega
          have b0 : (0 : Int) ≤ (j : Int) - 15 := by omega
          have b1 : (0 : Int) ≤ (j : Int) - 2 := by omega
          have b2 : (0 : Int) ≤ (j : Int) - 16 := by omega
          have b3 : (0 : Int) ≤ (j : Int) - 7 := by omega
          have c0 : (j : Int) - 15 < 64 := by omega
          have c1 : (j : Int) - 2 < 64 := by omega
          have c2 : (j : Int) - 16 < 64 := by omega
          have c3 : (j : Int) - 7 < 64 := by omega
          have e0 : IntKind.i64.wrap ((j : Int) - 15) = (j : Int) - 15 := IntWalk.i64_in _ (by omega)
          have e1 : IntKind.i64.wrap ((j : Int) - 2) = (j : Int) - 2 := IntWalk.i64_in _ (by omega)
          have e2 : IntKind.i64.wrap ((j : Int) - 16) = (j : Int) - 16 := IntWalk.i64_in _ (by omega)
          have e3 : IntKind.i64.wrap ((j : Int) - 7) = (j : Int) - 7 := IntWalk.i64_in _ (by omega)
          clear hl
          go_wp2_with fail
          go_still_tail 29, (by kernel_rfl)
          still_call (rotR_still _ 7 (by decide) _)
          repeat still_step
          still_call (rotR_still _ 18 (by decide) _)
          repeat still_step
          still_call (rotR_still _ 17 (by decide) _)
          repeat still_step
          still_call (rotR_still _ 19 (by decide) _)
          repeat still_step
          refine wpStill_nil ?_
          go_wp2_with fail
          go_roundw
          case rel => exact ⟨j + 1, by omega, by omega, by go_num, ((HI.out.cell j (wEx (WTo blk j) j)).of (WTo_ext blk j h16)).drew⟩
          case measure => simp [intOf]; omega
        · have hj64 : j = 64 := by omega
          have hge : ¬ ((j : Int) < 64) := by omega
          have HI64 := Lib.hid (HI.out.of (by rw [hj64] : WTo blk j = WTo blk 64))
          clear hlt hj hj0 hj64 HI HI16
          obtain ⟨W, hW⟩ : ∃ W, W = WTo blk 64 := ⟨_, rfl⟩
          rw [← hW] at HI64
          have HW := Lib.hid hW
          clear hW
          have hsz := Lib.hid (show (nums .u32 st).toArray.size = 8 by rw [List.size_toArray, nums_length]; exact H8.out)
          have hi1 := Lib.hid (show (Tryd.prog.info? 104).map (·.size) = some (nums .u32 st).toArray.size by rw [hsz.out]; exact i8)
          go_wp2_with (first | ((with_reducible refine gate_dst (N := 82) rfl ?_); (refine wpList_load_row rfl 104 _ rfl _ rfl 104 _ (0, 0) _ HI64.out.h0 Tryd.underlying104 rfl hi1.out ?_)) | ((with_reducible refine gate_store (t := 104) (p := 13) rfl ?_); (refine wpList_store_row rfl 104 _ _ rfl _ _ rfl rfl 104 _ (heap_alloc_last _ _) hi1.out hsz.out.symm (oneCell_nums _ _) ?_); rw [World.setRow_alloc_new]))
          clear hge
          obtain ⟨n5, hn5⟩ : ∃ n, n = wr.heap.size := ⟨_, rfl⟩
          have hI2 : RInv2 w st blk W st n5 (wr.alloc (.cells (nums .u32 st).toArray 104)) := by
            have h := HI64.out
            obtain ⟨c, hc, hs⟩ := h.h3
            have hlt := blk_lt h.h4
            subst hn5
            exact ⟨⟨(heap_alloc_old _ _ (blk_lt h.h0)).trans h.h0, (heap_alloc_old _ _ (blk_lt h.h1)).trans h.h1, (heap_alloc_old _ _ (blk_lt h.h2)).trans h.h2, ⟨c, (heap_alloc_old _ _ (blk_lt hc)).trans hc, hs⟩, (heap_alloc_old _ _ hlt).trans h.h4, h.hW, h.hB.alloc h.hB.size _⟩, heap_alloc_last _ _, by omega, H8.out⟩
          rw [← hn5]
          have HI2 := Lib.hid hI2
          clear hI2 HI64 hi1 hsz hn5
          generalize wr.alloc (.cells (nums .u32 st).toArray 104) = w2 at *
          go_loopw [14] (fun i wr => ∃ j : Nat, j ≤ 64 ∧ i = .int .i64 (j : Int) ∧ RInv2 w st blk W (STo st W j) n5 wr) (fun i _ => 64 - (intOf i).toNat)
          case atStart => exact ⟨0, by omega, rfl, HI2.out⟩
          case round =>
            obtain ⟨i, hi, rfl, hI⟩ := hrel
            have HI := Lib.hid hI
            clear hI
            by_cases hlt : i < 64
            · have hlt' : decide ((i : Int) < 64) = true := by simp; omega
              have hb := Lib.hid HI.out.hV
              have q0 := cell_nums HI.out.h5 0 (by rw [hb.out]; decide)
              have q1 := cell_nums HI.out.h5 1 (by rw [hb.out]; decide)
              have q2 := cell_nums HI.out.h5 2 (by rw [hb.out]; decide)
              have q4 := cell_nums HI.out.h5 4 (by rw [hb.out]; decide)
              have q5 := cell_nums HI.out.h5 5 (by rw [hb.out]; decide)
              have q6 := cell_nums HI.out.h5 6 (by rw [hb.out]; decide)
              have q7 := cell_nums HI.out.h5 7 (by rw [hb.out]; decide)
              have qw := cell_nums HI.out.base.h4 i (by rw [HI.out.base.hW]; exact hlt)
              have qk := cell_nums HI.out.base.h2 i hlt
              go_wp2_with fail
              go_quiet ((go_at_call 82; exact Calls.quiet_of_same (rotR_still _ _ (by decide) _)))
              clear q0 q1 q2 q4 q5 q6 q7 qw qk
              have HQ := Lib.hid (HI.out.drewN nq)
              clear HI
              generalize wr.drewN nq = wq at *
              have q0 := cell_nums HQ.out.h5 0 (by rw [hb.out]; decide)
              have q1 := cell_nums HQ.out.h5 1 (by rw [hb.out]; decide)
              have q2 := cell_nums HQ.out.h5 2 (by rw [hb.out]; decide)
              go_wp2_with fail
              go_quiet ((go_at_call 82; exact Calls.quiet_of_same (rotR_still _ _ (by decide) _)))
              clear q0 q1 q2
              have HQ2 := Lib.hid (HQ.out.drewN nq)
              clear HQ
              generalize wq.drewN nq = wq2 at *
              go_wp2_with fail
              obtain ⟨wo, rfl⟩ : ∃ x, x = wq2 := ⟨wq2, rfl⟩
              go_loopw [17] (fun c wr => ∃ m : Nat, m ≤ 7 ∧ c = .int .i64 (m : Int) ∧ RInv2 w st blk W (ShTo (STo st W i) (7 - m)) n5 wr) (fun c _ => (intOf c).toNat)
              case atStart => exact ⟨7, by omega, rfl, HQ2.out⟩
              case round =>
                obtain ⟨m, hm, rfl, hI⟩ := hrel
                have HI3 := Lib.hid hI
                clear hI
                by_cases hm0 : 0 < m
                · have hm0' : decide ((0 : Int) < (m : Int)) = true := by simp; omega
                  have r0 := cell_nums HI3.out.h5 (m - 1) (by rw [HI3.out.hV]; omega)
                  have r1 := cell_nums HI3.out.h5 m (by rw [HI3.out.hV]; omega)
                  have f1 := blk_frozen HI3.out.h5 m
                  have n0 : ((m : Int) - 1).toNat = m - 1 := by omega
                  have d0 : (1 : Int) ≤ (m : Int) := by omega
                  have b0 : (0 : Int) ≤ (m : Int) - 1 := by omega
                  have c0 : (m : Int) - 1 < 8 := by omega
                  have c1 : (m : Int) < 8 := by omega
                  go_wp2_with fail
                  go_roundw
                  case rel => exact ⟨m - 1, by omega, by go_num, (HI3.out.cell m _).of (ShTo_c _ m hm0 hm)⟩
                  case measure => simp [intOf]; omega
                · have hm0' : decide ((0 : Int) < (m : Int)) = false := by simp; omega
                  have hm1 : ¬ ((0 : Int) < (m : Int)) := by omega
                  have hm2 : m = 0 := by omega
                  have HI4 := Lib.hid (HI3.out.of (by rw [hm2] : ShTo (STo st W i) (7 - m) = ShTo (STo st W i) 7))
                  have r4 := cell_nums HI4.out.h5 4 (by rw [HI4.out.hV]; decide)
                  have r0 := cell_nums HI4.out.h5 0 (by rw [HI4.out.hV]; decide)
                  have f4 := blk_frozen HI4.out.h5 4
                  have f0 := blk_frozen HI4.out.h5 0
                  clear hm hm0 hm2 HI3 HQ2
                  go_wp2_with fail
                  go_roundw
                  case rel => exact ⟨i + 1, by omega, by go_num, ((HI4.out.cell 4 _).cell 0 _).of (ShTo_step W i hb.out)⟩
                  case measure => simp [intOf]; omega
            · have hge : ¬ ((i : Int) < 64) := by omega
              have hi64 : i = 64 := by omega
              have HJ := Lib.hid hi64
              clear hi hlt hi64 HI2
              go_wp2_with fail
              clear hge
              obtain ⟨S, hS⟩ : ∃ S, S = STo st W i := ⟨_, rfl⟩
              rw [← hS] at HI
              have HS := Lib.hid hS
              clear hS
              obtain ⟨wo, rfl⟩ : ∃ x, x = wr := ⟨wr, rfl⟩
              go_loopw [18] (fun i wr => ∃ j : Nat, j ≤ 8 ∧ i = .int .i64 (j : Int) ∧ RInv2 w st blk W (FTo st S j) n5 wr) (fun i _ => 8 - (intOf i).toNat)
              case atStart => exact ⟨0, by omega, rfl, HI.out⟩
              case round =>
                obtain ⟨m, hm, rfl, hI⟩ := hrel
                have HI3 := Lib.hid hI
                clear hI
                by_cases hlt : m < 8
                · have q0 := cell_nums HI3.out.h5 m (by rw [HI3.out.hV]; exact hlt)
                  have f0 := blk_frozen HI3.out.h5 m
                  have q1 := cell_nums HI3.out.base.h0 m (by rw [H8.out]; exact hlt)
                  go_wp2_with fail
                  go_still_tail 9, (by kernel_rfl)
                  go_wp2_with fail
                  go_roundw
                  case rel => exact ⟨m + 1, by omega, by go_num, (HI3.out.cell m _).drew⟩
                  case measure => simp [intOf]; omega
                · have hge : ¬ ((m : Int) < 8) := by omega
                  have hm8 : m = 8 := by omega
                  have HM8 := Lib.hid hm8
                  have hii := Lib.hid i8
                  clear hm hlt hm8
                  obtain ⟨c, hc, hcs⟩ := HI3.out.base.h3
                  have HC := Lib.hid hc
                  have HCS := Lib.hid hcs
                  have hsz := Lib.hid (show (nums .u32 (FTo st S m)).toArray.size = 8 by rw [List.size_toArray, nums_length]; exact HI3.out.hV)
                  have hii2 := Lib.hid (show (Tryd.prog.info? 104).map (·.size) = some (nums .u32 (FTo st S m)).toArray.size by rw [hsz.out]; exact i8)
                  clear hc hcs
                  go_wp2_with (first | ((with_reducible refine gate_dst (N := 183) rfl ?_); (refine wpList_load_row rfl 104 _ rfl _ rfl 104 _ (0, 0) _ HI3.out.h5 Tryd.underlying104 rfl hii2.out ?_)) | ((with_reducible refine gate_store (t := 104) (p := 6) rfl ?_); (refine wpList_store_row rfl 104 _ _ rfl _ _ rfl rfl 104 _ HC.out hii2.out (HCS.out.trans hsz.out.symm) (oneCell_nums _ _) ?_)))
                  refine bodyPost_ret (v := .agg (nums .u32 (FTo st S m)).toArray) (results_cell_row Tryd.results75 _ _ _ _ _ (0, 0) _ rfl (setRow_heap _ _ _ _ _ _ HC.out) Tryd.underlying104 rfl hii2.out) rfl ⟨?_, below_setRow HI3.out.base.hB (by omega) _⟩
                  rw [HM8.out, HS.out, HJ.out, HW.out]; rfl
end Go.Proofs.YtipapffpfggmnaaDoor
namespace Go.Proofs.YtipapffpfggmnaaDoor
open Go.RowKit Go.Proofs.YtipapffpfggmnaaDoorW.PrintWords Go.Proofs.YtipapffpfggmnaaDoorW.PrintLast Go.Proofs.YtipapffpfggmnaaDoorW.PrintMore Go.Proofs.YtipapffpfggmnaaDoor.PRef
set_option linter.unusedVariables false
def zerosN (n : Nat) : Nat := (119 - n % 64) % 64
def be8 (x : Int) : List Int := [x / 2 ^ 56 % 256, x / 2 ^ 48 % 256, x / 2 ^ 40 % 256, x / 2 ^ 32 % 256, x / 2 ^ 24 % 256, x / 2 ^ 16 % 256, x / 2 ^ 8 % 256, x % 256]
def padL (n : Nat) : List Int := 128 :: (List.replicate (zerosN n) 0 ++ be8 (8 * n))
theorem padL_len (n : Nat) : (n + (padL n).length) % 64 = 0 := by
  unfold padL
  rw [List.length_cons, List.length_append, List.length_replicate]
  have : (be8 (8 * (n : Int))).length = 8 := rfl
  rw [this]; unfold zerosN; omega
theorem padL_short (n : Nat) : (padL n).length ≤ 72 := by
  unfold padL
  rw [List.length_cons, List.length_append, List.length_replicate]
  have : (be8 (8 * (n : Int))).length = 8 := rfl
  rw [this]; unfold zerosN; omega
theorem padL_bytes (n : Nat) : Bytes (padL n) := by
  intro x hx
  unfold padL be8 at hx
  rcases List.mem_cons.1 hx with rfl | hx
  · omega
  rcases List.mem_append.1 hx with hx | hx
  · rw [(List.mem_replicate.1 hx).2]; omega
  · simp only [List.mem_cons, List.not_mem_nil, or_false] at hx
    rcases hx with rfl | rfl | rfl | rfl | rfl | rfl | rfl | rfl <;> omega
theorem w64 {x : Int} (h : -1000000000000 ≤ x) (h2 : x ≤ 1000000000000) : wrap64 x = x := by unfold wrap64; omega
theorem tmod_nat (a b : Nat) : Int.tmod (a : Int) (b : Int) = ((a % b : Nat) : Int) := Int.ofNat_tmod a b
theorem shr64 (x : Int) (i : Nat) (h : i ≤ 64) : shr .i64 x (i : Int) = x / 2 ^ i := by
  unfold shr
  rw [Int.toNat_natCast, Nat.min_eq_left (show i ≤ IntKind.i64.bits from h)]
theorem shrU64 (x : Int) (i : Nat) (h : i ≤ 64) : shr .u64 x (i : Int) = x / 2 ^ i := by
  unfold shr
  rw [Int.toNat_natCast, Nat.min_eq_left (show i ≤ IntKind.u64.bits from h)]
theorem set_behind (z : Nat) (A B : List Int) (i : Nat) (v : Int) (hA : A.length = z + 1) (h : i < B.length) : (A ++ B).set (1 + z + i) v = A ++ B.set i v := by
  rw [List.set_append_right _ _ (by omega)]
  congr 2; omega
/-- Round i of the loop that writes the length. -/
theorem pad_round (k n z i : Nat) (A B : List Int) (hn : n ≤ 1000000000) (hz : z < 64) (hi : i < 8) (hA : A.length = z + 1) (hB : B.length = 8) (r : List Int)
    (h : sha_Padding.l0 k n z (A ++ B.set i (8 * (n : Int) / 2 ^ (56 - 8 * i) % 256)) ((i + 1 : Nat) : Int) = some r) : sha_Padding.l0 (k + 1) n z (A ++ B) (i : Int) = some r := by
  have c1 : -1000000000000 ≤ 8 * (i : Int) ∧ 8 * (i : Int) ≤ 1000000000000 := by omega
  have c2 : -1000000000000 ≤ 56 - 8 * (i : Int) ∧ 56 - 8 * (i : Int) ≤ 1000000000000 := by omega
  have c3 : -1000000000000 ≤ 1 + (z : Int) ∧ 1 + (z : Int) ≤ 1000000000000 := by omega
  have c4 : -1000000000000 ≤ 1 + (z : Int) + (i : Int) ∧ 1 + (z : Int) + (i : Int) ≤ 1000000000000 := by omega
  have c5 : -1000000000000 ≤ (n : Int) * 8 ∧ (n : Int) * 8 ≤ 1000000000000 := by omega
  have c6 : -1000000000000 ≤ (i : Int) + 1 ∧ (i : Int) + 1 ≤ 1000000000000 := by omega
  have d1 : (i : Int) < 8 := by omega
  have d2 : (0 : Int) ≤ ((56 - 8 * i : Nat) : Int) := by omega
  have d3 : (0 : Int) ≤ ((1 + z + i : Nat) : Int) := by omega
  have d4 : ((1 + z + i : Nat) : Int) < ((A ++ B).length : Int) := by rw [List.length_append, hA, hB]; omega
  have f2 : 56 - 8 * (i : Int) = ((56 - 8 * i : Nat) : Int) := by omega
  have f4 : 1 + (z : Int) + (i : Int) = ((1 + z + i : Nat) : Int) := by omega
  have f5 : (n : Int) * 8 = 8 * (n : Int) := by omega
  have f6 : (i : Int) + 1 = ((i + 1 : Nat) : Int) := by omega
  have g : 56 - 8 * i ≤ 64 := by omega
  have gi : i < B.length := by omega
  rw [sha_Padding.l0, w64 c1.1 c1.2, w64 c2.1 c2.2, w64 c3.1 c3.2, w64 c4.1 c4.2, w64 c5.1 c5.2, w64 c6.1 c6.2, f2, f4, f5, f6, if_pos d1, if_pos d2, if_pos d3, if_pos d4, Int.toNat_natCast, shr64 _ _ g, set_behind z A B i _ hA gi]
  exact h
theorem pad_loop (n z : Nat) (A : List Int) (hn : n ≤ 1000000000) (hz : z < 64) (hA : A.length = z + 1) : sha_Padding.l0 9 n z (A ++ [0, 0, 0, 0, 0, 0, 0, 0]) ((0 : Nat) : Int) = some (A ++ be8 (8 * n)) := by
  refine pad_round 8 n z 0 A _ hn hz (by omega) hA rfl _ ?_
  refine pad_round 7 n z 1 A _ hn hz (by omega) hA rfl _ ?_
  refine pad_round 6 n z 2 A _ hn hz (by omega) hA rfl _ ?_
  refine pad_round 5 n z 3 A _ hn hz (by omega) hA rfl _ ?_
  refine pad_round 4 n z 4 A _ hn hz (by omega) hA rfl _ ?_
  refine pad_round 3 n z 5 A _ hn hz (by omega) hA rfl _ ?_
  refine pad_round 2 n z 6 A _ hn hz (by omega) hA rfl _ ?_
  refine pad_round 1 n z 7 A _ hn hz (by omega) hA rfl _ ?_
  rw [sha_Padding.l0, if_neg (by omega)]
  have e : (8 * (n : Int)) / 2 ^ (56 - 8 * 7) % 256 = 8 * (n : Int) % 256 := by simp
  simp only [List.set_cons_zero, List.set_cons_succ, be8, e]
theorem padP_eq (n : Nat) (hn : n ≤ 1000000000) : sha_Padding.f 9 n = some (padL n) := by
  unfold sha_Padding.f
  have e0 : Int.tmod (n : Int) 64 = ((n % 64 : Nat) : Int) := tmod_nat n 64
  have hz : zerosN n < 64 := by unfold zerosN; omega
  have c1 : -1000000000000 ≤ 119 - ((n % 64 : Nat) : Int) ∧ 119 - ((n % 64 : Nat) : Int) ≤ 1000000000000 := by omega
  have f1 : 119 - ((n % 64 : Nat) : Int) = ((119 - n % 64 : Nat) : Int) := by omega
  have e2 : Int.tmod ((119 - n % 64 : Nat) : Int) 64 = ((zerosN n : Nat) : Int) := tmod_nat (119 - n % 64) 64
  have c3 : -1000000000000 ≤ 1 + ((zerosN n : Nat) : Int) ∧ 1 + ((zerosN n : Nat) : Int) ≤ 1000000000000 := by omega
  have c4 : -1000000000000 ≤ 1 + ((zerosN n : Nat) : Int) + 8 ∧ 1 + ((zerosN n : Nat) : Int) + 8 ≤ 1000000000000 := by omega
  have f4 : 1 + ((zerosN n : Nat) : Int) + 8 = ((1 + zerosN n + 8 : Nat) : Int) := by omega
  have d1 : (0 : Int) ≤ ((1 + zerosN n + 8 : Nat) : Int) := by omega
  have d2 : 1 + zerosN n + 8 ≤ 281474976710656 := by omega
  have d3 : (0 : Int) < ((1 + zerosN n + 8 : Nat) : Int) := by omega
  rw [e0, w64 c1.1 c1.2, f1, e2, w64 c3.1 c3.2, w64 c4.1 c4.2, f4, if_pos d1, Int.toNat_natCast, if_pos d2, Option.bind_some, List.length_replicate, if_pos d3]
  have e5 : (List.replicate (1 + zerosN n + 8) (0 : Int)).set (0 : Int).toNat 128 = (128 :: List.replicate (zerosN n) 0) ++ [0, 0, 0, 0, 0, 0, 0, 0] := by
    rw [show 1 + zerosN n + 8 = (zerosN n + 8) + 1 from by omega, List.replicate_succ]
    show 128 :: List.replicate (zerosN n + 8) 0 = _
    rw [List.cons_append, ← List.replicate_append_replicate]; rfl
  rw [e5]
  exact pad_loop n (zerosN n) _ hn hz (by rw [List.length_cons, List.length_replicate])
/-! ### the reference's -/
theorem ref_zeros (n : Nat) (hn : n ≤ 1000000000) : ∀ (d m k : Nat), m + d = zerosN n → d < k →
    ∃ k', k' + d + 1 = k ∧ vestryref06_Padding.l0 k n (128 :: List.replicate m 0) = vestryref06_Padding.l1 k' (128 :: List.replicate (zerosN n) 0) (8 * n) 7 := by
  intro d
  induction d with
  | zero =>
    intro m k hm hk
    obtain ⟨k, rfl⟩ : ∃ j, k = j + 1 := ⟨k - 1, by omega⟩
    have hm' : m = zerosN n := by omega
    subst hm'
    refine ⟨k, by omega, ?_⟩
    have hz : zerosN n < 64 := by unfold zerosN; omega
    have c1 : -1000000000000 ≤ (n : Int) + ((zerosN n + 1 : Nat) : Int) ∧ (n : Int) + ((zerosN n + 1 : Nat) : Int) ≤ 1000000000000 := by omega
    have c2 : -1000000000000 ≤ (n : Int) + ((zerosN n + 1 : Nat) : Int) + 8 ∧ (n : Int) + ((zerosN n + 1 : Nat) : Int) + 8 ≤ 1000000000000 := by omega
    have f2 : (n : Int) + ((zerosN n + 1 : Nat) : Int) + 8 = ((n + (zerosN n + 1) + 8 : Nat) : Int) := by omega
    have e3 : Int.tmod ((n + (zerosN n + 1) + 8 : Nat) : Int) 64 = (((n + (zerosN n + 1) + 8) % 64 : Nat) : Int) := tmod_nat _ 64
    have e4 : (n + (zerosN n + 1) + 8) % 64 = 0 := by unfold zerosN; omega
    have e5 : IntKind.u64.wrap (IntKind.u64.wrap (n : Int) * 8) = 8 * (n : Int) := by
      have : ∀ x : Int, IntKind.u64.wrap x = x % 18446744073709551616 := fun x => by simp [IntKind.wrap, IntKind.bits, IntKind.signed]
      rw [this, this]; omega
    rw [vestryref06_Padding.l0, List.length_cons, List.length_replicate, w64 c1.1 c1.2, w64 c2.1 c2.2, f2, e3, e4, e5]
    rfl
  | succ d ih =>
    intro m k hm hk
    obtain ⟨k, rfl⟩ : ∃ j, k = j + 1 := ⟨k - 1, by omega⟩
    obtain ⟨k', hk', h⟩ := ih (m + 1) k (by omega) (by omega)
    refine ⟨k', by omega, ?_⟩
    have hz : zerosN n < 64 := by unfold zerosN; omega
    have c1 : -1000000000000 ≤ (n : Int) + ((m + 1 : Nat) : Int) ∧ (n : Int) + ((m + 1 : Nat) : Int) ≤ 1000000000000 := by omega
    have c2 : -1000000000000 ≤ (n : Int) + ((m + 1 : Nat) : Int) + 8 ∧ (n : Int) + ((m + 1 : Nat) : Int) + 8 ≤ 1000000000000 := by omega
    have f2 : (n : Int) + ((m + 1 : Nat) : Int) + 8 = ((n + (m + 1) + 8 : Nat) : Int) := by omega
    have e3 : Int.tmod ((n + (m + 1) + 8 : Nat) : Int) 64 = (((n + (m + 1) + 8) % 64 : Nat) : Int) := tmod_nat _ 64
    have e4 : ¬ ((((n + (m + 1) + 8) % 64 : Nat) : Int) = 0) := by unfold zerosN at hm hz; omega
    have d1 : m + 1 < 140737488355328 := by omega
    rw [vestryref06_Padding.l0, List.length_cons, List.length_replicate, w64 c1.1 c1.2, w64 c2.1 c2.2, f2, e3, if_neg e4, if_pos d1]
    have e5 : (128 :: List.replicate m (0 : Int)) ++ [0] = 128 :: List.replicate (m + 1) 0 := by
      rw [List.cons_append, List.replicate_succ']
    rw [e5]; exact h
theorem ref_round (k : Nat) (L : List Int) (x : Int) (i : Nat) (hi : i ≤ 7) (hL : L.length < 1000) (r : List Int) (h : vestryref06_Padding.l1 k (L ++ [x / 2 ^ (8 * i) % 256]) x ((i : Int) - 1) = some r) : vestryref06_Padding.l1 (k + 1) L x (i : Int) = some r := by
  have u : IntKind.u64.wrap (8 * (i : Int)) = ((8 * i : Nat) : Int) := by
    have : ∀ x : Int, IntKind.u64.wrap x = x % 18446744073709551616 := fun x => by simp [IntKind.wrap, IntKind.bits, IntKind.signed]
    rw [this]; omega
  have U := Lib.hid u
  clear u
  have c1 : -1000000000000 ≤ 8 * (i : Int) ∧ 8 * (i : Int) ≤ 1000000000000 := by omega
  have c2 : -1000000000000 ≤ (i : Int) - 1 ∧ (i : Int) - 1 ≤ 1000000000000 := by omega
  have d1 : (i : Int) ≥ 0 := by omega
  have d2 : (0 : Int) ≤ ((8 * i : Nat) : Int) := by omega
  have d3 : L.length < 140737488355328 := by omega
  have d4 : 8 * i ≤ 64 := by omega
  rw [vestryref06_Padding.l1, if_pos d1, w64 c1.1 c1.2, U.out, w64 c2.1 c2.2, if_pos d2, if_pos d3, shrU64 _ _ d4]
  exact h
theorem padR_eq (n : Nat) (hn : n ≤ 1000000000) : ∃ k, vestryref06_Padding.f k n = some (padL n) := by
  refine ⟨zerosN n + 10, ?_⟩
  unfold vestryref06_Padding.f
  obtain ⟨k', hk', h⟩ := ref_zeros n hn (zerosN n) 0 (zerosN n + 10) (by omega) (by omega)
  have hz : zerosN n < 64 := by unfold zerosN; omega
  have hk9 : k' = 9 := by omega
  subst hk9
  refine h.trans ?_
  have hl : (128 :: List.replicate (zerosN n) (0 : Int)).length < 100 := by rw [List.length_cons, List.length_replicate]; omega
  have hl' : ∀ (i : Nat) (x : Int), True := fun _ _ => trivial
  have g : padL n = ((((((((128 :: List.replicate (zerosN n) 0) ++ [8 * (n : Int) / 2 ^ (8 * 7) % 256]) ++ [8 * (n : Int) / 2 ^ (8 * 6) % 256]) ++ [8 * (n : Int) / 2 ^ (8 * 5) % 256]) ++ [8 * (n : Int) / 2 ^ (8 * 4) % 256]) ++ [8 * (n : Int) / 2 ^ (8 * 3) % 256]) ++ [8 * (n : Int) / 2 ^ (8 * 2) % 256]) ++ [8 * (n : Int) / 2 ^ (8 * 1) % 256]) ++ [8 * (n : Int) / 2 ^ (8 * 0) % 256] := by
    unfold padL be8
    simp
  rw [g]
  generalize (128 :: List.replicate (zerosN n) (0 : Int)) = L at *
  generalize 8 * (n : Int) = x
  refine ref_round 8 L x 7 (by omega) (by omega) _ ?_
  refine ref_round 7 _ x 6 (by omega) (by simp only [List.length_append, List.length_singleton]; omega) _ ?_
  refine ref_round 6 _ x 5 (by omega) (by simp only [List.length_append, List.length_singleton]; omega) _ ?_
  refine ref_round 5 _ x 4 (by omega) (by simp only [List.length_append, List.length_singleton]; omega) _ ?_
  refine ref_round 4 _ x 3 (by omega) (by simp only [List.length_append, List.length_singleton]; omega) _ ?_
  refine ref_round 3 _ x 2 (by omega) (by simp only [List.length_append, List.length_singleton]; omega) _ ?_
  refine ref_round 2 _ x 1 (by omega) (by simp only [List.length_append, List.length_singleton]; omega) _ ?_
  refine ref_round 1 _ x 0 (by omega) (by simp only [List.length_append, List.length_singleton]; omega) _ ?_
  rw [vestryref06_Padding.l1, if_neg (by omega)]
end Go.Proofs.YtipapffpfggmnaaDoor
namespace Go.Proofs.YtipapffpfggmnaaDoor.PS
variable {S B : Type}
/-- One byte into the block; a full block goes into the state. -/
def absorb (f : S → List B → S) (st : S × List B × Nat) (c : B) : S × List B × Nat :=
  let blk := st.2.1.set (st.2.2 % 64) c
  (if (st.2.2 + 1) % 64 = 0 then f st.1 blk else st.1, blk, st.2.2 + 1)
def chunks (f : S → List B → S) : Nat → S → List B → S
  | 0, s, _ => s
  | k + 1, s, l => chunks f k (f s (l.take 64)) (l.drop 64)
theorem absorb_len (f : S → List B → S) (l : List B) (st : S × List B × Nat) : ((l.foldl (absorb f) st).2.1.length = st.2.1.length) ∧ (l.foldl (absorb f) st).2.2 = st.2.2 + l.length := by
  induction l generalizing st with
  | nil => exact ⟨rfl, rfl⟩
  | cons x l ih =>
    rw [List.foldl_cons]
    have := ih (absorb f st x)
    refine ⟨this.1.trans ?_, this.2.trans ?_⟩
    · show (st.2.1.set _ _).length = _; rw [List.length_set]
    · show st.2.2 + 1 + l.length = _; rw [List.length_cons]; omega
/-- Fewer than 64 bytes from a block's start on. -/
theorem absorb_part (f : S → List B → S) (s : S) (blk : List B) (hb : blk.length = 64) (n : Nat) (hn : n % 64 = 0) : ∀ (d : List B) (l : List B), d.length + l.length < 64 →
    l.foldl (absorb f) (s, d ++ blk.drop d.length, n + d.length) = (s, (d ++ l) ++ blk.drop (d ++ l).length, n + (d ++ l).length)
  | d, [], _ => by rw [List.append_nil]; rfl
  | d, x :: l, h => by
    rw [List.length_cons] at h
    rw [List.foldl_cons]
    have e : absorb f (s, d ++ blk.drop d.length, n + d.length) x = (s, (d ++ [x]) ++ blk.drop (d ++ [x]).length, n + (d ++ [x]).length) := by
      unfold absorb
      have h1 : (n + d.length) % 64 = d.length := by omega
      have h2 : ¬ (n + d.length + 1) % 64 = 0 := by omega
      simp only [h1, if_neg h2]
      have h3 : blk.drop d.length = blk[d.length]'(by omega) :: blk.drop (d.length + 1) := List.drop_eq_getElem_cons (by omega)
      rw [h3, List.set_append_right _ _ (Nat.le_refl _), Nat.sub_self, List.set_cons_zero, List.length_append, List.length_singleton, List.append_assoc, List.singleton_append, Nat.add_assoc]
    rw [e, absorb_part f s blk hb n hn (d ++ [x]) l (by rw [List.length_append, List.length_singleton]; omega)]
    rw [← List.append_cons]
theorem absorb_full (f : S → List B → S) (s : S) (blk : List B) (hb : blk.length = 64) (n : Nat) (hn : n % 64 = 0) (l : List B) (hl : l.length = 64) :
    l.foldl (absorb f) (s, blk, n) = (f s l, l, n + 64) := by
  have hne : l ≠ [] := fun h => by rw [h] at hl; cases hl
  have e := List.dropLast_concat_getLast hne
  have hd : l.dropLast.length = 63 := by rw [List.length_dropLast, hl]
  rw [← e, List.foldl_append]
  have h1 := absorb_part f s blk hb n hn [] l.dropLast (by rw [hd, List.length_nil]; decide)
  simp only [List.nil_append, List.length_nil, List.drop_zero, Nat.add_zero] at h1
  rw [h1, hd, List.foldl_cons, List.foldl_nil]
  unfold absorb
  have h2 : (n + 63) % 64 = 63 := by omega
  have h3 : (n + 63 + 1) % 64 = 0 := by omega
  simp only [h2, if_pos h3]
  have h4 : blk.drop 63 = [blk[63]'(by omega)] := by
    rw [List.drop_eq_getElem_cons (by omega), List.drop_of_length_le (by omega)]
  have h5 : (l.dropLast ++ blk.drop 63).set 63 (l.getLast hne) = l.dropLast ++ [l.getLast hne] := by
    rw [h4, List.set_append_right _ _ (by omega), hd, Nat.sub_self, List.set_cons_zero]
  rw [h5]
theorem absorb_chunks (f : S → List B → S) : ∀ (k : Nat) (s : S) (blk : List B) (n : Nat) (l : List B), blk.length = 64 → n % 64 = 0 → l.length = 64 * k →
    (l.foldl (absorb f) (s, blk, n)).1 = chunks f k s l
  | 0, s, blk, n, l, _, _, hl => by
    rw [List.length_eq_zero_iff.1 (by omega : l.length = 0)]; rfl
  | k + 1, s, blk, n, l, hb, hn, hl => by
    have e := List.take_append_drop 64 l
    have h1 : (l.take 64).length = 64 := by rw [List.length_take]; omega
    have h2 : (l.drop 64).length = 64 * k := by rw [List.length_drop]; omega
    rw [chunks, ← absorb_chunks f k (f s (l.take 64)) (l.take 64) (n + 64) (l.drop 64) h1 (by omega) h2, ← absorb_full f s blk hb n hn (l.take 64) h1, ← List.foldl_append, e]
end Go.Proofs.YtipapffpfggmnaaDoor.PS
namespace Go.Proofs.YtipapffpfggmnaaDoor
open Go.RowKit Go.Proofs.YtipapffpfggmnaaDoorW.PrintWords Go.Proofs.YtipapffpfggmnaaDoorW.PrintLast Go.Proofs.YtipapffpfggmnaaDoorW.PrintMore Go.Proofs.YtipapffpfggmnaaDoor.PRef Go.Proofs.YtipapffpfggmnaaDoor.PS
set_option linter.unusedVariables false
/-- A row of numbers of which no cell is written. -/
theorem add_block (ad : Addr) (j : Nat) : (ad.add j).block = ad.block := by unfold Addr.add; split <;> rfl
theorem C_far {k : IntKind} {w : World} {A : Option Addr} {n : Nat} {xs : List Int} (h : Kd.C (Kd.int k) w A n xs) {p : Addr} (hp : 0 < n → ∀ ad, A = some ad → ad.block ≠ p.block) (u : Value) : Kd.C (Kd.int k) (w.setCell p u) A n xs := by
  obtain ⟨h1, h2, h3⟩ := h
  refine ⟨h1, h2, fun hn => ?_⟩
  obtain ⟨ad, ha, h4⟩ := h3 hn
  refine ⟨ad, ha, fun j x hj => ?_⟩
  obtain ⟨cs, hl, hK, h5⟩ := h4 j x hj
  refine ⟨cs, hl, hK, fun i q hq => ?_⟩
  rw [World.cell?_setCell_other w p _ u (fun e => hp hn ad ha (by rw [e, add_block]))]
  exact h5 i q hq
theorem C_row {k : IntKind} {w : World} {A : Option Addr} {n : Nat} {xs : List Int} (h : Kd.C (Kd.int k) w A n xs) {g : Nat} (hp : 0 < n → ∀ ad, A = some ad → ad.block ≠ g) (cs : Array Value) : Kd.C (Kd.int k) (w.setRow g cs) A n xs := by
  obtain ⟨h1, h2, h3⟩ := h
  refine ⟨h1, h2, fun hn => ?_⟩
  obtain ⟨ad, ha, h4⟩ := h3 hn
  refine ⟨ad, ha, fun j x hj => ?_⟩
  obtain ⟨cs', hl, hK, h5⟩ := h4 j x hj
  refine ⟨cs', hl, hK, fun i q hq => ?_⟩
  rw [cell_setRow_other _ _ _ _ (by rw [add_block]; exact hp hn ad ha)]
  exact h5 i q hq
/-- The state of the closure's variables. -/
structure AddInv (base bB bN bS : Nat) (A : Option Addr) (l : List Int) (st : List Int × List Int × Nat) (W wr : World) : Prop where
  hB : wr.heap[bB]? = some (.cells (nums .u8 st.2.1).toArray 80 (0, 0))
  hN : wr.heap[bN]? = some (.cells #[.int .i64 (st.2.2 : Int)] 3 (0, 0))
  hS : wr.heap[bS]? = some (.cells (nums .u32 st.1).toArray 104 (0, 0))
  hA : Kd.C (Kd.int .u8) wr A l.length l
  l64 : st.2.1.length = 64
  l8 : st.1.length = 8
  bel : Below base W wr
section
variable {base bB bN bS : Nat} {A : Option Addr} {l : List Int} {st : List Int × List Int × Nat} {W wr : World}
theorem AddInv.ne (h : AddInv base bB bN bS A l st W wr) : bB ≠ bN ∧ bB ≠ bS ∧ bN ≠ bS := ⟨blk_ne h.hB h.hN (by decide), blk_ne h.hB h.hS (by decide), blk_ne h.hN h.hS (by decide)⟩
/-- One byte, and the count. -/
theorem AddInv.byte (h : AddInv base bB bN bS A l st W wr) (hf : 0 < l.length → ∀ ad, A = some ad → ad.block ≠ bB ∧ ad.block ≠ bN ∧ ad.block ≠ bS) (h1 : base ≤ bB) (h2 : base ≤ bN) (i : Nat) (c : Int) {m : Int} (hm : m = ((st.2.2 + 1 : Nat) : Int)) :
    AddInv base bB bN bS A l (st.1, st.2.1.set i c, st.2.2 + 1) W ((wr.setCell ⟨bB, i, none⟩ (.int .u8 c)).setCell ⟨bN, 0, none⟩ (.int .i64 m)) := by
  subst hm
  obtain ⟨n1, n2, n3⟩ := h.ne
  have a1 := blk_set h.hB i (.int .u8 c)
  rw [nums_set] at a1
  have a2 : (wr.setCell ⟨bB, i, none⟩ (.int .u8 c)).heap[bN]? = _ := blk_far h.hN (p := ⟨bB, i, none⟩) (fun e => n1 e.symm) _
  have a3 := blk_set a2 0 (.int .i64 ((st.2.2 + 1 : Nat) : Int))
  refine ⟨blk_far a1 (p := ⟨bN, 0, none⟩) n1 _, by simpa using a3, blk_far (blk_far h.hS (p := ⟨bB, i, none⟩) (fun e => n2 e.symm) _) (p := ⟨bN, 0, none⟩) (fun e => n3 e.symm) _, ?_, by rw [List.length_set]; exact h.l64, h.l8, (h.bel.setCell h1 _).setCell h2 _⟩
  exact C_far (C_far h.hA (p := ⟨bB, i, none⟩) (fun hl ad ha => (hf hl ad ha).1) _) (p := ⟨bN, 0, none⟩) (fun hl ad ha => (hf hl ad ha).2.1) _
theorem AddInv.block (h : AddInv base bB bN bS A l st W wr) (hf : 0 < l.length → ∀ ad, A = some ad → ad.block ≠ bB ∧ ad.block ≠ bN ∧ ad.block ≠ bS) (h3 : base ≤ bS) {w1 : World} (hb : Below wr.heap.size wr w1) {s' : List Int} (hs : s'.length = 8) :
    AddInv base bB bN bS A l (s', st.2) W (w1.setRow bS (nums .u32 s').toArray) := by
  obtain ⟨n1, n2, n3⟩ := h.ne
  have e : Below base W w1 := h.bel.trans (hb.mono (by have := blk_lt h.hS; omega))
  exact ⟨(setRow_other _ _ _ _ n2).trans (blk_below h.hB hb), (setRow_other _ _ _ _ n3).trans (blk_below h.hN hb), setRow_heap _ _ _ _ _ _ (blk_below h.hS hb), C_row (Kd.C_below h.hA hb) (fun hl ad ha => (hf hl ad ha).2.2) _, h.l64, hs, below_setRow e h3 _⟩
end
theorem LaidK.belowB {B : Nat} {w W : World} (h : LaidK w) (hb : Below B w W) (hg : 1 < B) : LaidK W := fun j hj => (hb.cell (p := ⟨_, j, none⟩) hg).trans (h j hj)
def AddPost (base bB bN bS : Nat) (A : Option Addr) (l : List Int) (st : List Int × List Int × Nat) (W : World) (e : Ending) (w' : World) : Prop := e = .returned (.tuple #[]) ∧ AddInv base bB bN bS A l st W w'
theorem absorb_step (f : List Int → List Int → List Int) (l : List Int) (st : List Int × List Int × Nat) (k : Nat) (h : k < l.length) : (l.take (k + 1)).foldl (absorb f) st = absorb f ((l.take k).foldl (absorb f) st) (rd l (k : Int)) := by
  rw [List.take_succ_eq_append_getElem h, List.foldl_append, List.foldl_cons, List.foldl_nil]
  congr 1
  unfold rd
  rw [Int.toNat_natCast, List.getD_eq_getElem?_getD, List.getElem?_eq_getElem h]; rfl
theorem i64b : (Tryd.prog.info? 80).map (·.size) = some 64 := by kernel_rfl
set_option maxHeartbeats 8000000 in
set_option maxRecDepth 100000 in
theorem Add_any (base bB bN bS : Nat) (A : Option Addr) (c : Nat) (l : List Int) (st : List Int × List Int × Nat) (W : World) (h : AddInv base bB bN bS A l st W W) (hf : 0 < l.length → ∀ ad, A = some ad → ad.block ≠ bB ∧ ad.block ≠ bN ∧ ad.block ≠ bS)
    (h1 : base ≤ bB) (h2 : base ≤ bN) (h3 : base ≤ bS) (hK : LaidK W) (hKb : 1 < base) (hn : st.2.2 + l.length ≤ 1000000000) :
    Calls Tryd.prog 62 #[.slice A l.length c, .pointer (some ⟨bB, 0, none⟩), .pointer (some ⟨bN, 0, none⟩), .pointer (some ⟨bS, 0, none⟩)] W (AddPost base bB bN bS A l (l.foldl (absorb blkF) st) W) := by
  have H := Lib.hid h
  have HF := Lib.hid hf
  have HK := Lib.hid hK
  have hlm := Kd.C_max h.hA
  clear h hf hK
  go_enter Tryd.func62, Tryd.ntmps62
  go_wp2_with fail
  go_loopw [9] (fun i wr => ∃ k : Nat, k ≤ l.length ∧ i = .int .i64 (k : Int) ∧ AddInv base bB bN bS A l ((l.take k).foldl (absorb blkF) st) W wr) (fun i _ => l.length - (intOf i).toNat)
  case atStart => exact ⟨0, by omega, rfl, H.out⟩
  case round =>
    obtain ⟨k, hk, rfl, hI⟩ := hrel
    have HI := Lib.hid hI
    clear hI
    by_cases hlt : k < l.length
    · obtain ⟨ad, rfl, q0⟩ := Kd.at_int HI.out.hA (k : Int) (by omega) (by omega)
      rw [Int.toNat_natCast] at q0
      have hst := absorb_step blkF l st k hlt
      have hal := absorb_len blkF (l.take k) st
      rw [List.length_take, Nat.min_eq_left hk] at hal
      generalize (l.take k).foldl (absorb blkF) st = s1 at *
      obtain ⟨s2, hs2⟩ : ∃ s2, s2 = (l.take (k + 1)).foldl (absorb blkF) st := ⟨_, rfl⟩
      rw [← hs2] at hst
      have HT := Lib.hid hs2.symm
      clear hs2
      generalize rd l (k : Int) = b at *
      obtain ⟨S, B, n⟩ := s1
      have hn2 : n + 1 ≤ 1000000000 := by have h1 : n = st.2.2 + k := hal.2; omega
      have HST := Lib.hid hst
      clear hst hal
      have hb64 : B.length = 64 := HI.out.l64
      have qn : wr.cell? ⟨bN, 0, none⟩ = some (.int .i64 (n : Int)) := blk_cell HI.out.hN 0
      have x1 : ¬ bB = bN := HI.out.ne.1
      have x2 : ¬ bN = bB := fun e => x1 e.symm
      have fn := blk_frozen HI.out.hN 0
      have qb := cell_nums HI.out.hB (n % 64) (by show n % 64 < B.length; rw [hb64]; omega)
      have fb := blk_frozen HI.out.hB (n % 64)
      have m0 : (0 : Int) ≤ (n : Int) % 64 := by omega
      have m1 : (n : Int) % 64 < 64 := by omega
      have m2 : ((n : Int) % 64).toNat = n % 64 := by omega
      clear hb64
      have HI2 := Lib.hid (HI.out.byte HF.out h1 h2 (n % 64) b (m := (n : Int) + 1) rfl)
      by_cases hz : (n + 1) % 64 = 0
      · have z0 : (((n : Int) + 1) % 64 == 0) = true := by simp; omega
        have hs2 : s2 = (blkF S (B.set (n % 64) b), B.set (n % 64) b, n + 1) := by
          rw [HST.out]; unfold absorb; simp only [hz, if_true]
        have HS2 := Lib.hid hs2
        have hi8 : (Tryd.prog.info? 104).map (·.size) = some (nums .u32 S).toArray.size := by rw [List.size_toArray, nums_length, show S.length = 8 from HI.out.l8]; exact i8
        have hi64 : (Tryd.prog.info? 80).map (·.size) = some (nums .u8 (B.set (n % 64) b)).toArray.size := by rw [List.size_toArray, nums_length, show (B.set (n % 64) b).length = 64 from HI2.out.l64]; exact i64b
        have HI8 := Lib.hid hi8
        have HI64 := Lib.hid hi64
        clear hs2 hi8 hi64 hz
        go_wp2_with (first | ((with_reducible refine gate_dst (N := 22) rfl ?_); (refine wpList_load_row rfl 104 _ rfl _ rfl 104 _ (0, 0) _ HI2.out.hS Tryd.underlying104 rfl HI8.out ?_)) | ((with_reducible refine gate_dst (N := 23) rfl ?_); (refine wpList_load_row rfl 80 _ rfl _ rfl 80 _ (0, 0) _ HI2.out.hB Tryd.underlying80 rfl HI64.out ?_)))
        refine (Block_any S (B.set (n % 64) b) _ HI2.out.l8 HI2.out.l64 (HK.out.belowB HI2.out.bel hKb)).mono ?_
        rintro e1 w1 ⟨rfl, hb⟩
        have hl8 := blkF_len S (B.set (n % 64) b) HI2.out.l8
        have HI3 := Lib.hid (HI2.out.block HF.out h3 hb hl8)
        have HS1 := Lib.hid (blk_below HI2.out.hS hb)
        have hi82 : (Tryd.prog.info? 104).map (·.size) = some (nums .u32 (blkF S (B.set (n % 64) b))).toArray.size := by rw [List.size_toArray, nums_length, hl8]; exact i8
        have HI82 := Lib.hid hi82
        have hsz : (nums .u32 S).toArray.size = (nums .u32 (blkF S (B.set (n % 64) b))).toArray.size := by rw [List.size_toArray, nums_length, List.size_toArray, nums_length, hl8]; exact HI2.out.l8
        have HSZ := Lib.hid hsz
        clear hb hi82 hsz hl8
        go_wp2_with ((with_reducible refine gate_store (t := 104) (p := 3) rfl ?_); (refine wpList_store_row rfl 104 _ _ rfl _ _ rfl rfl 104 _ HS1.out HI82.out HSZ.out (oneCell_nums _ _) ?_))
        go_roundw
        case rel => exact ⟨k + 1, by omega, by go_num, by rw [HT.out, HS2.out]; exact HI3.out⟩
        case measure => simp [intOf]; omega
      · have z0 : (((n : Int) + 1) % 64 == 0) = false := by simp; omega
        have hs2 : s2 = (S, B.set (n % 64) b, n + 1) := by
          rw [HST.out]; unfold absorb; simp only [hz, if_false]
        have HS2 := Lib.hid hs2
        clear hs2 hz
        go_wp2_with fail
        go_roundw
        case rel => exact ⟨k + 1, by omega, by go_num, by rw [HT.out, HS2.out]; exact HI2.out⟩
        case measure => simp [intOf]; omega
    · have hkl : k = l.length := by omega
      have ht : l.take k = l := List.take_of_length_le (by omega)
      rw [ht] at HI
      have hge : ¬ ((k : Int) < l.length) := by omega
      clear hlt ht hk hkl
      go_wp2_with fail
      go_end0
      exact ⟨rfl, HI.out⟩
end Go.Proofs.YtipapffpfggmnaaDoor
namespace Go.Proofs.YtipapffpfggmnaaDoor
open Go.RowKit Go.Proofs.YtipapffpfggmnaaDoorW.PrintWords Go.Proofs.YtipapffpfggmnaaDoorW.PrintLast Go.Proofs.YtipapffpfggmnaaDoorW.PrintMore Go.Proofs.YtipapffpfggmnaaDoor.PRef
set_option linter.unusedVariables false
def startL : List Int := [1779033703, 3144134277, 1013904242, 2773480762, 1359893119, 2600822924, 528734635, 1541459225]
def AggPost (k : IntKind) (l : List Int) (w : World) (e : Ending) (w' : World) : Prop := e = .returned (.agg (nums k l).toArray) ∧ Below w.heap.size w w'
theorem Start_any (w : World) : Calls Tryd.prog 61 #[] w (AggPost .u32 startL w) := by
  go_enter Tryd.func61, Tryd.ntmps61
  go_wp2_with (first | ((with_reducible refine gate_dst (N := 1) rfl ?_); (refine wpList_build8 rfl _ _ _ _ _ _ _ _ rfl _ _ _ _ _ _ _ _ rfl rfl rfl rfl rfl rfl rfl rfl ?_)) | ((with_reducible refine gate_store (t := 104) (p := 0) rfl ?_); (refine wpList_store_row rfl 104 _ _ rfl _ _ rfl rfl 104 _ (heap_alloc_last _ _) i8 rfl (oneCell_nums _ _) ?_); rw [World.setRow_alloc_new]))
  refine bodyPost_ret (v := .agg (nums .u32 startL).toArray) (results_cell_row Tryd.results61 _ _ _ _ _ (0, 0) _ rfl (heap_alloc_last _ _) Tryd.underlying104 rfl i8) rfl ⟨rfl, below_alloc (Below.refl _ _) _⟩
theorem RStart_any (w : World) : Calls Tryd.prog 73 #[] w (AggPost .u32 startL w) := by
  go_enter Tryd.func73, Tryd.ntmps73
  go_wp2_with (first | ((with_reducible refine gate_dst (N := 1) rfl ?_); (refine wpList_build8 rfl _ _ _ _ _ _ _ _ rfl _ _ _ _ _ _ _ _ rfl rfl rfl rfl rfl rfl rfl rfl ?_)) | ((with_reducible refine gate_store (t := 104) (p := 0) rfl ?_); (refine wpList_store_row rfl 104 _ _ rfl _ _ rfl rfl 104 _ (heap_alloc_last _ _) i8 rfl (oneCell_nums _ _) ?_); rw [World.setRow_alloc_new]))
  refine bodyPost_ret (v := .agg (nums .u32 startL).toArray) (results_cell_row Tryd.results73 _ _ _ _ _ (0, 0) _ rfl (heap_alloc_last _ _) Tryd.underlying104 rfl i8) rfl ⟨rfl, below_alloc (Below.refl _ _) _⟩
theorem i64t : (Tryd.prog.info? 125).map (·.size) = some 64 := by kernel_rfl
theorem u32one : (Tryd.prog.info? 103).map (·.size) = some 1 := by kernel_rfl
theorem t64zero : ((Tryd.prog.info? 125).bind (·.zero)).map (·.cells.size) = some KTab.length := by kernel_rfl
set_option maxRecDepth 100000 in
theorem RTable_any (w : World) : Calls Tryd.prog 74 #[] w (AggPost .u32 KTab w) := by
  go_enter Tryd.func74, Tryd.ntmps74
  go_wp2_with (first | ((with_reducible refine gate_dst (N := 1) rfl ?_); (refine wpList_buildFlatArr rfl 125 103 64 _ rfl .u32 KTab Tryd.underlying125 u32one t64zero rfl ?_)) | ((with_reducible refine gate_store (t := 125) (p := 0) rfl ?_); (refine wpList_store_row rfl 125 _ _ rfl _ (nums .u32 KTab).toArray rfl rfl 125 _ (heap_alloc_last _ _) i64t rfl (oneCell_nums _ _) ?_); rw [World.setRow_alloc_new]))
  refine bodyPost_ret (v := .agg (nums .u32 KTab).toArray) (results_cell_row Tryd.results74 _ _ _ _ _ (0, 0) _ rfl (heap_alloc_last _ _) Tryd.underlying125 rfl i64t) rfl ⟨rfl, below_alloc (Below.refl _ _) _⟩
end Go.Proofs.YtipapffpfggmnaaDoor
namespace Go.Proofs.YtipapffpfggmnaaDoor
open Go.RowKit Go.Proofs.YtipapffpfggmnaaDoorW.PrintWords Go.Proofs.YtipapffpfggmnaaDoorW.PrintLast Go.Proofs.YtipapffpfggmnaaDoorW.PrintMore Go.Proofs.YtipapffpfggmnaaDoor.PRef Go.Proofs.YtipapffpfggmnaaDoor.PS
set_option linter.unusedVariables false
/-- The digest's bytes, written one by one. -/
def outP (s : List Int) : Nat → List Int
  | 0 => List.replicate 32 0
  | j + 1 => (outP s j).set j (rd s ((j / 4 : Nat) : Int) / 2 ^ (24 - 8 * (j % 4)) % 256)
theorem outP_len (s : List Int) : ∀ j, (outP s j).length = 32
  | 0 => rfl
  | j + 1 => by rw [outP, List.length_set]; exact outP_len s j
/-- The state behind all bytes and the padding. -/
def shaS (L : List Int) : List Int := chunks blkF ((L.length + (padL L.length).length) / 64) startL (L ++ padL L.length)
def shaF (L : List Int) : List Int := outP (shaS L) 32
theorem shaF_len (L : List Int) : (shaF L).length = 32 := outP_len _ _
theorem info_u32 : (Tryd.prog.info? 103).map (fun i => (i.size, i.bytes)) = some (1, 4) := by kernel_rfl
theorem run_index8 (S : List Int) (h8 : S.length = 8) (i : Nat) (hi : i < 8) (w : World) : (Instr.index 104 (.agg (nums .u32 S).toArray) (.int .i64 (i : Int))).run Tryd.prog w = .ok (.int .u32 (rd S i)) w := by
  obtain ⟨ie, hie, hs⟩ := Option.map_eq_some_iff.1 u32one
  have hg : (nums .u32 S).toArray[i]? = some (.int .u32 (rd S i)) := by
    unfold rd nums
    rw [List.getElem?_toArray, List.getElem?_map, Int.toNat_natCast, List.getElem?_eq_getElem (by omega), List.getD_eq_getElem?_getD, List.getElem?_eq_getElem (by omega)]
    rfl
  have hg2 := hg
  rw [List.getElem?_toArray] at hg2
  simp [Instr.index, asIntOf, underlying, Tryd.underlying104, sizeOf, typeInfo, hie, hs, Result.andThen, hi, part, isAgg, Tryd.underlying103, hg2]
/-- The closure's variables, no row besides. -/
structure SumInv (w : World) (base bB bN bS : Nat) (st : List Int × List Int × Nat) (W wr : World) : Prop where
  inv : AddInv base bB bN bS none [] st W wr
  hR : wr.heap[w.heap.size]? = some (.cells (nums .u8 (List.replicate 32 0)).toArray 24 (0, 0))
  bel : Below w.heap.size w wr
theorem absorb_append (f : List Int → List Int → List Int) (a b : List Int) (st : List Int × List Int × Nat) : (a ++ b).foldl (absorb f) st = b.foldl (absorb f) (a.foldl (absorb f) st) := List.foldl_append
def startSt : List Int × List Int × Nat := (startL, List.replicate 64 0, 0)
theorem start_chunks (L : List Int) : ((L ++ padL L.length).foldl (absorb blkF) startSt).1 = shaS L := by
  unfold shaS startSt
  refine absorb_chunks blkF _ _ _ 0 _ (by rw [List.length_replicate]) rfl ?_
  rw [List.length_append]
  have := padL_len L.length
  omega
theorem take_flat (parts : List (List Int)) (k : Nat) (h : k < parts.length) : (parts.take (k + 1)).flatten = (parts.take k).flatten ++ parts[k] := by
  rw [List.take_succ_eq_append_getElem h, List.flatten_append, List.flatten_singleton]
theorem flat_le (parts : List (List Int)) (k : Nat) : (parts.take k).flatten.length ≤ parts.flatten.length := by
  have e : parts.flatten = (parts.take k).flatten ++ (parts.drop k).flatten := by rw [← List.flatten_append, List.take_append_drop]
  rw [e, List.length_append]; omega
theorem i32b : (Tryd.prog.info? 24).map (·.size) = some 32 := by kernel_rfl
theorem C_slice_at {e : Nat} {α : Type} {d : Kd α} {w : World} {A : Option Addr} {n : Nat} {xs : List (List α)} (h : Kd.C (Kd.slice e d) w A n xs) (k : Nat) (hk : k < xs.length) :
    ∃ ad A' c', A = some ad ∧ w.cell? (ad.add k) = some (.slice A' (xs[k]).length c') ∧ (xs[k]).length ≤ c' ∧ d.C w A' (xs[k]).length xs[k] := by
  obtain ⟨h1, h2, h3⟩ := h
  obtain ⟨ad, ha, h4⟩ := h3 (by omega)
  obtain ⟨cs, hl, hK, h5⟩ := h4 k xs[k] (List.getElem?_eq_getElem hk)
  obtain ⟨A', c', rfl, hc, hC⟩ := hK
  refine ⟨ad, A', c', ha, ?_, hc, hC⟩
  have := h5 0 _ rfl
  have e1 : k * (Kd.slice e d).sz + 0 = k := by show k * 1 + 0 = k; omega
  rw [e1] at this
  exact this
theorem C_lt {k : IntKind} {w : World} {A : Option Addr} {xs : List Int} (h : Kd.C (Kd.int k) w A xs.length xs) (hn : 0 < xs.length) : ∀ ad, A = some ad → ad.block < w.heap.size := by
  intro ad ha
  subst ha
  obtain ⟨ad', ha, hc⟩ := Kd.at_int h 0 (by omega) (by omega)
  cases ha
  have := World.block_lt_of_cell? w _ hc
  rw [add_block] at this
  exact this
section
variable {w : World} {base bB bN bS : Nat} {st st' : List Int × List Int × Nat} {W wr w' : World} {A : Option Addr} {l : List Int}
theorem SumInv.open_ (h : SumInv w base bB bN bS st W wr) (hC : Kd.C (Kd.int .u8) wr A l.length l) : AddInv base bB bN bS A l st wr wr := ⟨h.inv.hB, h.inv.hN, h.inv.hS, hC, h.inv.l64, h.inv.l8, Below.refl _ _⟩
theorem SumInv.shut (h : SumInv w base bB bN bS st W wr) (hb : w.heap.size < base) (h2 : AddInv base bB bN bS A l st' wr w') : SumInv w base bB bN bS st' W w' :=
  ⟨⟨h2.hB, h2.hN, h2.hS, Kd.C_nil _ _, h2.l64, h2.l8, h.inv.bel.trans h2.bel⟩, (h2.bel.block _ hb).trans h.hR, h.bel.trans (h2.bel.mono (by omega))⟩
theorem SumInv.below (h : SumInv w base bB bN bS st W wr) (hb : Below wr.heap.size wr w') (hbs : base ≤ wr.heap.size) : SumInv w base bB bN bS st W w' :=
  ⟨⟨blk_below h.inv.hB hb, blk_below h.inv.hN hb, blk_below h.inv.hS hb, Kd.C_nil _ _, h.inv.l64, h.inv.l8, h.inv.bel.trans (hb.mono hbs)⟩, blk_below h.hR hb, h.bel.trans (hb.mono h.bel.size)⟩
theorem SumInv.of (h : SumInv w base bB bN bS st W wr) (e : st = st') : SumInv w base bB bN bS st' W wr := e ▸ h
end
structure OutInv (w : World) (n9 : Nat) (L : List Int) (wr : World) : Prop where
  hR : ∃ c, wr.heap[w.heap.size]? = some (.cells c 24 (0, 0)) ∧ c.size = 32
  hO : wr.heap[n9]? = some (.cells (nums .u8 L).toArray 24 (0, 0))
  hn : w.heap.size < n9
  bel : Below w.heap.size w wr
theorem OutInv.cell {w : World} {n9 : Nat} {L : List Int} {wr : World} (h : OutInv w n9 L wr) (i : Nat) (v : Int) : OutInv w n9 (L.set i v) (wr.setCell ⟨n9, i, none⟩ (.int .u8 v)) := by
  obtain ⟨c, hc, hs⟩ := h.hR
  have hn := h.hn
  have h4 := blk_set h.hO i (.int .u8 v)
  rw [nums_set] at h4
  exact ⟨⟨c, blk_far hc (by show _ ≠ n9; omega) _, hs⟩, h4, hn, h.bel.setCell (by show w.heap.size ≤ n9; omega) _⟩
theorem OutInv.of {w : World} {n9 : Nat} {L L' : List Int} {wr : World} (h : OutInv w n9 L wr) (e : L = L') : OutInv w n9 L' wr := e ▸ h
theorem OutInv.drew {w : World} {n9 : Nat} {L : List Int} {wr : World} (h : OutInv w n9 L wr) : OutInv w n9 L wr.drew := ⟨h.hR, h.hO, h.hn, below_drew0 h.bel⟩
theorem outP_at (s : List Int) (i m : Nat) (hm : m < 4) : (outP s (4 * i + m)).set (4 * i + m) (rd s (i : Int) / 2 ^ (24 - 8 * m) % 256) = outP s (4 * i + (m + 1)) := by
  have e : 4 * i + (m + 1) = (4 * i + m) + 1 := by omega
  rw [e, outP, show (4 * i + m) / 4 = i from by omega, show (4 * i + m) % 4 = m from by omega]
theorem sum_start (w w1 : World) (hb : Below (w.alloc (.cells (#[.int .u8 0, .int .u8 0, .int .u8 0, .int .u8 0, .int .u8 0, .int .u8 0, .int .u8 0, .int .u8 0, .int .u8 0, .int .u8 0, .int .u8 0, .int .u8 0, .int .u8 0, .int .u8 0, .int .u8 0, .int .u8 0, .int .u8 0, .int .u8 0, .int .u8 0, .int .u8 0, .int .u8 0, .int .u8 0, .int .u8 0, .int .u8 0, .int .u8 0, .int .u8 0, .int .u8 0, .int .u8 0, .int .u8 0, .int .u8 0, .int .u8 0, .int .u8 0] : Array Value) 24)).heap.size (w.alloc (.cells (#[.int .u8 0, .int .u8 0, .int .u8 0, .int .u8 0, .int .u8 0, .int .u8 0, .int .u8 0, .int .u8 0, .int .u8 0, .int .u8 0, .int .u8 0, .int .u8 0, .int .u8 0, .int .u8 0, .int .u8 0, .int .u8 0, .int .u8 0, .int .u8 0, .int .u8 0, .int .u8 0, .int .u8 0, .int .u8 0, .int .u8 0, .int .u8 0, .int .u8 0, .int .u8 0, .int .u8 0, .int .u8 0, .int .u8 0, .int .u8 0, .int .u8 0, .int .u8 0] : Array Value) 24)) w1) :
    SumInv w w1.heap.size (w1.heap.size + 1) (w1.heap.size + 1 + 1) w1.heap.size startSt w1 (((w1.alloc (.cells (nums .u32 startL).toArray 104)).alloc (.cells (#[.int .u8 0, .int .u8 0, .int .u8 0, .int .u8 0, .int .u8 0, .int .u8 0, .int .u8 0, .int .u8 0, .int .u8 0, .int .u8 0, .int .u8 0, .int .u8 0, .int .u8 0, .int .u8 0, .int .u8 0, .int .u8 0, .int .u8 0, .int .u8 0, .int .u8 0, .int .u8 0, .int .u8 0, .int .u8 0, .int .u8 0, .int .u8 0, .int .u8 0, .int .u8 0, .int .u8 0, .int .u8 0, .int .u8 0, .int .u8 0, .int .u8 0, .int .u8 0, .int .u8 0, .int .u8 0, .int .u8 0, .int .u8 0, .int .u8 0, .int .u8 0, .int .u8 0, .int .u8 0, .int .u8 0, .int .u8 0, .int .u8 0, .int .u8 0, .int .u8 0, .int .u8 0, .int .u8 0, .int .u8 0, .int .u8 0, .int .u8 0, .int .u8 0, .int .u8 0, .int .u8 0, .int .u8 0, .int .u8 0, .int .u8 0, .int .u8 0, .int .u8 0, .int .u8 0, .int .u8 0, .int .u8 0, .int .u8 0, .int .u8 0, .int .u8 0] : Array Value) 80)).alloc (.cells #[.int .i64 0] 3)) := by
  have hs := hb.size
  rw [World.size_alloc] at hs
  have hr : w1.heap[w.heap.size]? = some (.cells (#[.int .u8 0, .int .u8 0, .int .u8 0, .int .u8 0, .int .u8 0, .int .u8 0, .int .u8 0, .int .u8 0, .int .u8 0, .int .u8 0, .int .u8 0, .int .u8 0, .int .u8 0, .int .u8 0, .int .u8 0, .int .u8 0, .int .u8 0, .int .u8 0, .int .u8 0, .int .u8 0, .int .u8 0, .int .u8 0, .int .u8 0, .int .u8 0, .int .u8 0, .int .u8 0, .int .u8 0, .int .u8 0, .int .u8 0, .int .u8 0, .int .u8 0, .int .u8 0] : Array Value) 24) := (hb.block _ (by simp)).trans (heap_alloc_last _ _)
  have hbl : Below w.heap.size w w1 := (below_alloc (Below.refl _ _) _).trans (hb.mono (by simp))
  have h1 := heap_alloc_last w1 (.cells (nums .u32 startL).toArray 104)
  have h2 := heap_alloc_last (w1.alloc (.cells (nums .u32 startL).toArray 104)) (.cells (#[.int .u8 0, .int .u8 0, .int .u8 0, .int .u8 0, .int .u8 0, .int .u8 0, .int .u8 0, .int .u8 0, .int .u8 0, .int .u8 0, .int .u8 0, .int .u8 0, .int .u8 0, .int .u8 0, .int .u8 0, .int .u8 0, .int .u8 0, .int .u8 0, .int .u8 0, .int .u8 0, .int .u8 0, .int .u8 0, .int .u8 0, .int .u8 0, .int .u8 0, .int .u8 0, .int .u8 0, .int .u8 0, .int .u8 0, .int .u8 0, .int .u8 0, .int .u8 0, .int .u8 0, .int .u8 0, .int .u8 0, .int .u8 0, .int .u8 0, .int .u8 0, .int .u8 0, .int .u8 0, .int .u8 0, .int .u8 0, .int .u8 0, .int .u8 0, .int .u8 0, .int .u8 0, .int .u8 0, .int .u8 0, .int .u8 0, .int .u8 0, .int .u8 0, .int .u8 0, .int .u8 0, .int .u8 0, .int .u8 0, .int .u8 0, .int .u8 0, .int .u8 0, .int .u8 0, .int .u8 0, .int .u8 0, .int .u8 0, .int .u8 0, .int .u8 0] : Array Value) 80)
  have h3 := heap_alloc_last ((w1.alloc (.cells (nums .u32 startL).toArray 104)).alloc (.cells (#[.int .u8 0, .int .u8 0, .int .u8 0, .int .u8 0, .int .u8 0, .int .u8 0, .int .u8 0, .int .u8 0, .int .u8 0, .int .u8 0, .int .u8 0, .int .u8 0, .int .u8 0, .int .u8 0, .int .u8 0, .int .u8 0, .int .u8 0, .int .u8 0, .int .u8 0, .int .u8 0, .int .u8 0, .int .u8 0, .int .u8 0, .int .u8 0, .int .u8 0, .int .u8 0, .int .u8 0, .int .u8 0, .int .u8 0, .int .u8 0, .int .u8 0, .int .u8 0, .int .u8 0, .int .u8 0, .int .u8 0, .int .u8 0, .int .u8 0, .int .u8 0, .int .u8 0, .int .u8 0, .int .u8 0, .int .u8 0, .int .u8 0, .int .u8 0, .int .u8 0, .int .u8 0, .int .u8 0, .int .u8 0, .int .u8 0, .int .u8 0, .int .u8 0, .int .u8 0, .int .u8 0, .int .u8 0, .int .u8 0, .int .u8 0, .int .u8 0, .int .u8 0, .int .u8 0, .int .u8 0, .int .u8 0, .int .u8 0, .int .u8 0, .int .u8 0] : Array Value) 80)) (.cells #[.int .i64 0] 3)
  rw [World.size_alloc] at h2 h3
  rw [World.size_alloc] at h3
  refine ⟨⟨?_, ?_, ?_, Kd.C_nil _ _, by rw [startSt]; rfl, rfl, ?_⟩, ?_, ?_⟩
  · rw [heap_alloc_old _ _ (by simp), h2]; rfl
  · rw [h3]; rfl
  · rw [heap_alloc_old _ _ (by simp <;> omega), heap_alloc_old _ _ (by simp), h1]; rfl
  · exact ((below_alloc (Below.refl _ _) _).alloc (by simp) _).alloc (by simp <;> omega) _
  · rw [heap_alloc_old _ _ (by simp <;> omega), heap_alloc_old _ _ (by simp <;> omega), heap_alloc_old _ _ (by omega), hr]; rfl
  · exact ((hbl.alloc (by omega) _).alloc (by simp <;> omega) _).alloc (by simp <;> omega) _
end Go.Proofs.YtipapffpfggmnaaDoor
namespace Go.Proofs.YtipapffpfggmnaaDoor
open Go.RowKit Go.Proofs.YtipapffpfggmnaaDoorW.PrintWords Go.Proofs.YtipapffpfggmnaaDoorW.PrintLast Go.Proofs.YtipapffpfggmnaaDoorW.PrintMore Go.Proofs.YtipapffpfggmnaaDoor.PRef Go.Proofs.YtipapffpfggmnaaDoor.PS
set_option linter.unusedVariables false
set_option maxHeartbeats 8000000 in
set_option maxRecDepth 100000 in
theorem Sum_any (A : Option Addr) (c : Nat) (parts : List (List Int)) (w : World) (hC : Kd.C (Kd.slice 5 (Kd.int .u8)) w A parts.length parts) (hL : parts.flatten.length ≤ 100000000) (hK : LaidK w) :
    Calls Tryd.prog 45 #[.slice A parts.length c] w (AggPost .u8 (shaF parts.flatten) w) := by
  have HC := Lib.hid hC
  have HL := Lib.hid hL
  have HK := Lib.hid hK
  clear hC hK
  go_enter Tryd.func45, Tryd.ntmps45
  go_wp2_with fail
  refine (Start_any _).mono ?_
  rintro e1 w1 ⟨rfl, hb1⟩
  have HB1 := Lib.hid hb1
  clear hb1
  go_wp2_with ((with_reducible refine gate_store (t := 104) (p := 3) rfl ?_); (refine wpList_store_row rfl 104 _ _ rfl _ (nums .u32 startL).toArray rfl rfl 104 _ (heap_alloc_last _ _) i8 rfl (oneCell_nums _ _) ?_); rw [World.setRow_alloc_new])
  have hws : w.heap.size < w1.heap.size := by have := HB1.out.size; rw [World.size_alloc] at this; omega
  have hkg : 1 < w1.heap.size := by have := World.block_lt_of_cell? w _ (HK.out 0 (by decide)); simp only at this; omega
  have HI0 := Lib.hid (sum_start w w1 HB1.out)
  go_loopw [17] (fun i wr => ∃ k : Nat, k ≤ parts.length ∧ i = .int .i64 (k : Int) ∧ SumInv w w1.heap.size (w1.heap.size + 1) (w1.heap.size + 1 + 1) w1.heap.size (((parts.take k).flatten).foldl (absorb blkF) startSt) w1 wr) (fun i _ => parts.length - (intOf i).toNat)
  case atStart => exact ⟨0, by omega, rfl, HI0.out⟩
  case round =>
    obtain ⟨k, hk, rfl, hI⟩ := hrel
    have HI := Lib.hid hI
    clear hI HI0
    have hlm := Kd.C_max HC.out
    by_cases hlt : k < parts.length
    · obtain ⟨ad, A', c', rfl, q0, hc', hC'⟩ := C_slice_at HC.out k hlt
      have q1 := pw_cell_below HI.out.bel q0
      have HC' := Lib.hid hC'
      have HQ := Lib.hid (take_flat parts k hlt)
      have hfl := flat_le parts (k + 1)
      rw [take_flat parts k hlt, List.length_append] at hfl
      have hal := (absorb_len blkF ((parts.take k).flatten) startSt).2
      have HAL := Lib.hid hal
      have HFL := Lib.hid hfl
      clear q0 hC' hal hfl
      go_wp2_with fail
      refine (Add_any w1.heap.size (w1.heap.size + 1) (w1.heap.size + 1 + 1) w1.heap.size A' c' parts[k] _ wr (HI.out.open_ (Kd.C_below HC'.out HI.out.bel)) (fun hl ad ha => by have := C_lt HC'.out hl ad ha; omega) (by omega) (by omega) (by omega) (HK.out.below HI.out.bel) hkg (by rw [HAL.out]; have := HFL.out; show 0 + _ + _ ≤ _; omega)).mono ?_
      rintro e2 w2 ⟨rfl, hadd⟩
      have HI2 := Lib.hid ((HI.out.shut hws hadd).of (absorb_append blkF _ _ _).symm)
      clear hadd
      go_wp2_with fail
      go_roundw
      case rel => exact ⟨k + 1, by omega, by go_num, by rw [HQ.out]; exact HI2.out⟩
      case measure => simp [intOf]; omega
    · have hkl : parts.take k = parts := List.take_of_length_le (by omega)
      rw [hkl] at HI
      have hge : ¬ ((k : Int) < parts.length) := by omega
      have hal := (absorb_len blkF parts.flatten startSt).2
      obtain ⟨N, hN⟩ : ∃ N, N = parts.flatten.length := ⟨_, rfl⟩
      have hal2 : (parts.flatten.foldl (absorb blkF) startSt).2.2 = N := by rw [hal, hN]; show 0 + _ = _; omega
      have qn : wr.cell? ⟨w1.heap.size + 1 + 1, 0, none⟩ = some (.int .i64 (N : Int)) := by rw [← hal2]; exact blk_cell HI.out.inv.hN 0
      have HAL := Lib.hid hal2
      have HN := Lib.hid hN
      rw [← hN] at hL
      clear hlt hk hkl hal hal2 hN
      go_wp2_with fail
      refine (sha_Padding.calls 9 (N : Int) (padL N) wr (padP_eq N (by omega))).mono ?_
      rintro e3 w3 ⟨v0, rfl, hR3, hb3⟩
      obtain ⟨A3, c3, rfl, hc3, hC3⟩ := Kd.R_reads hR3
      have hbs : w1.heap.size ≤ wr.heap.size := HI.out.inv.bel.size
      have hb3s := hb3.size
      have HI3 := Lib.hid (HI.out.below hb3 hbs)
      have hlow : ∀ ad, A3 = some ad → wr.heap.size ≤ ad.block := fun ad ha => by
        have := Kd.R_base hR3 ad.block (by subst ha; rfl)
        exact this
      have HC3 := Lib.hid hC3
      have HLOW := Lib.hid hlow
      have HN3 := Lib.hid (blk_lt HI.out.inv.hN)
      clear hR3 hb3 hC3 hlow
      go_wp2_with fail
      refine (Add_any w1.heap.size (w1.heap.size + 1) (w1.heap.size + 1 + 1) w1.heap.size A3 c3 (padL N) _ w3 (HI3.out.open_ HC3.out) (fun hl ad ha => by have := HLOW.out ad ha; have := HN3.out; omega) (by omega) (by omega) (by omega) (HK.out.below HI3.out.bel) hkg (by rw [HAL.out]; have := padL_short N; omega)).mono ?_
      rintro e4 w4 ⟨rfl, hadd⟩
      have hst : ((padL N).foldl (absorb blkF) (parts.flatten.foldl (absorb blkF) startSt)).1 = shaS parts.flatten := by
        rw [← absorb_append, HN.out]; exact start_chunks _
      have HI4 := Lib.hid (HI3.out.shut hws hadd)
      clear hadd HI3 HC3 HLOW HN3 HI qn
      obtain ⟨st4, hst4⟩ : ∃ st4, st4 = (padL N).foldl (absorb blkF) (parts.flatten.foldl (absorb blkF) startSt) := ⟨_, rfl⟩
      rw [← hst4] at HI4 hst
      have HST := Lib.hid hst
      clear hst hst4 HAL hge
      have hi8 := Lib.hid (show (Tryd.prog.info? 104).map (·.size) = some (nums .u32 st4.1).toArray.size by rw [List.size_toArray, nums_length, HI4.out.inv.l8]; exact i8)
      have hS4 := Lib.hid ((heap_alloc_old w4 (.cells #[.int .u8 0, .int .u8 0, .int .u8 0, .int .u8 0, .int .u8 0, .int .u8 0, .int .u8 0, .int .u8 0, .int .u8 0, .int .u8 0, .int .u8 0, .int .u8 0, .int .u8 0, .int .u8 0, .int .u8 0, .int .u8 0, .int .u8 0, .int .u8 0, .int .u8 0, .int .u8 0, .int .u8 0, .int .u8 0, .int .u8 0, .int .u8 0, .int .u8 0, .int .u8 0, .int .u8 0, .int .u8 0, .int .u8 0, .int .u8 0, .int .u8 0, .int .u8 0] 24) (blk_lt HI4.out.inv.hS)).trans HI4.out.inv.hS)
      go_wp2_with ((with_reducible refine gate_dst (N := 29) rfl ?_); (refine wpList_load_row rfl 104 _ rfl _ rfl 104 _ (0, 0) _ hS4.out Tryd.underlying104 rfl hi8.out ?_))
      have h8s := HI4.out.inv.l8
      obtain ⟨S, hS⟩ : ∃ S, S = st4.1 := ⟨_, rfl⟩
      rw [← hS] at h8s
      have HSS := Lib.hid hS
      have H8S := Lib.hid h8s
      rw [← hS]
      have hO := heap_alloc_last w4 (.cells #[.int .u8 0, .int .u8 0, .int .u8 0, .int .u8 0, .int .u8 0, .int .u8 0, .int .u8 0, .int .u8 0, .int .u8 0, .int .u8 0, .int .u8 0, .int .u8 0, .int .u8 0, .int .u8 0, .int .u8 0, .int .u8 0, .int .u8 0, .int .u8 0, .int .u8 0, .int .u8 0, .int .u8 0, .int .u8 0, .int .u8 0, .int .u8 0, .int .u8 0, .int .u8 0, .int .u8 0, .int .u8 0, .int .u8 0, .int .u8 0, .int .u8 0, .int .u8 0] 24)
      have hI5 : SumInv w w1.heap.size (w1.heap.size + 1) (w1.heap.size + 1 + 1) w1.heap.size st4 w1 (w4.alloc (.cells #[.int .u8 0, .int .u8 0, .int .u8 0, .int .u8 0, .int .u8 0, .int .u8 0, .int .u8 0, .int .u8 0, .int .u8 0, .int .u8 0, .int .u8 0, .int .u8 0, .int .u8 0, .int .u8 0, .int .u8 0, .int .u8 0, .int .u8 0, .int .u8 0, .int .u8 0, .int .u8 0, .int .u8 0, .int .u8 0, .int .u8 0, .int .u8 0, .int .u8 0, .int .u8 0, .int .u8 0, .int .u8 0, .int .u8 0, .int .u8 0, .int .u8 0, .int .u8 0] 24)) := HI4.out.below (below_alloc (Below.refl _ _) _) HI4.out.inv.bel.size
      have HI5 := Lib.hid hI5
      have HO := Lib.hid hO
      have hlow : w1.heap.size + 1 + 1 < w4.heap.size := blk_lt HI4.out.inv.hN
      clear hI5 hO hS4 HI4 hi8 h8s hS
      have hO0 : OutInv w w4.heap.size (outP S (4 * 0)) (w4.alloc (.cells #[.int .u8 0, .int .u8 0, .int .u8 0, .int .u8 0, .int .u8 0, .int .u8 0, .int .u8 0, .int .u8 0, .int .u8 0, .int .u8 0, .int .u8 0, .int .u8 0, .int .u8 0, .int .u8 0, .int .u8 0, .int .u8 0, .int .u8 0, .int .u8 0, .int .u8 0, .int .u8 0, .int .u8 0, .int .u8 0, .int .u8 0, .int .u8 0, .int .u8 0, .int .u8 0, .int .u8 0, .int .u8 0, .int .u8 0, .int .u8 0, .int .u8 0, .int .u8 0] 24)) := ⟨⟨_, HI5.out.hR, by rw [List.size_toArray, nums_length]; rfl⟩, HO.out, by omega, HI5.out.bel⟩
      have HO0 := Lib.hid hO0
      clear hO0 HI5 HO
      generalize w4.heap.size = n9 at *
      go_loopw [30] (fun v wr => ∃ i : Nat, i ≤ 8 ∧ v = .int .i64 (i : Int) ∧ OutInv w n9 (outP S (4 * i)) wr) (fun v _ => 8 - (intOf v).toNat)
      case atStart => exact ⟨0, by omega, rfl, HO0.out⟩
      case round =>
        obtain ⟨i, hi, rfl, hI⟩ := hrel
        have HI := Lib.hid hI
        clear hI HO0
        by_cases hlt : i < 8
        · have hlt' : decide ((i : Int) < 8) = true := by simp; omega
          have hidx := run_index8 S H8S.out i hlt
          go_wp2_with fail
          clear hidx
          obtain ⟨wo, rfl⟩ : ∃ x, x = wr := ⟨wr, rfl⟩
          go_loopw [34] (fun v wr => ∃ m : Nat, m ≤ 4 ∧ v = .int .i64 (m : Int) ∧ OutInv w n9 (outP S (4 * i + m)) wr) (fun v _ => 4 - (intOf v).toNat)
          case atStart => exact ⟨0, by omega, rfl, HI.out⟩
          case round =>
            obtain ⟨m, hm, rfl, hI⟩ := hrel
            have HI2 := Lib.hid hI
            clear hI
            by_cases hlt2 : m < 4
            · have q0 := cell_nums HI2.out.hO (4 * i + m) (by rw [outP_len]; omega)
              have f0 := blk_frozen HI2.out.hO (4 * i + m)
              have n0 : (4 * (i : Int) + (m : Int)).toNat = 4 * i + m := by omega
              have n1 : (24 - 8 * (m : Int)).toNat = 24 - 8 * m := by omega
              have b0 : (0 : Int) ≤ 4 * (i : Int) + (m : Int) := by omega
              have b1 : (0 : Int) ≤ 24 - 8 * (m : Int) := by omega
              have c0 : 4 * (i : Int) + (m : Int) < 32 := by omega
              have c1 : 24 - 8 * (m : Int) < 32 := by omega
              go_wp2_with fail
              go_roundw
              case rel => exact ⟨m + 1, by omega, by go_num, (HI2.out.cell (4 * i + m) _).of (outP_at S i m hlt2)⟩
              case measure => simp [intOf]; omega
            · have hm4 : m = 4 := by omega
              have HI3 := Lib.hid (HI2.out.of (by rw [hm4]; rfl : outP S (4 * i + m) = outP S (4 * (i + 1))))
              have hge : ¬ ((m : Int) < 4) := by omega
              clear hm hlt2 hm4 HI2
              go_wp2_with fail
              go_roundw
              case rel => exact ⟨i + 1, by omega, by go_num, HI3.out⟩
              case measure => simp [intOf]; omega
        · have hi8 : i = 8 := by omega
          have HI3 := Lib.hid (HI.out.of (by rw [hi8] : outP S (4 * i) = outP S 32))
          have hge : ¬ ((i : Int) < 8) := by omega
          clear hi hlt hi8 HI
          obtain ⟨c2, hc, hcs⟩ := HI3.out.hR
          have HC2 := Lib.hid hc
          have HCS := Lib.hid hcs
          have hsz := Lib.hid (show (nums .u8 (outP S 32)).toArray.size = 32 by rw [List.size_toArray, nums_length]; exact outP_len _ _)
          have hii2 := Lib.hid (show (Tryd.prog.info? 24).map (·.size) = some (nums .u8 (outP S 32)).toArray.size by rw [hsz.out]; exact i32b)
          clear hc hcs
          go_wp2_with (first | ((with_reducible refine gate_dst (N := 50) rfl ?_); (refine wpList_load_row rfl 24 _ rfl _ rfl 24 _ (0, 0) _ HI3.out.hO Tryd.underlying24 rfl hii2.out ?_)) | ((with_reducible refine gate_store (t := 24) (p := 2) rfl ?_); (refine wpList_store_row rfl 24 _ _ rfl _ _ rfl rfl 24 _ HC2.out hii2.out (HCS.out.trans hsz.out.symm) (oneCell_nums _ _) ?_)))
          refine bodyPost_ret (v := .agg (nums .u8 (outP S 32)).toArray) (results_cell_row Tryd.results45 _ _ _ _ _ (0, 0) _ rfl (setRow_heap _ _ _ _ _ _ HC2.out) Tryd.underlying24 rfl hii2.out) rfl ⟨?_, below_setRow HI3.out.bel (Nat.le_refl _) _⟩
          rw [HSS.out, HST.out]; rfl
end Go.Proofs.YtipapffpfggmnaaDoor
namespace Go.Proofs.YtipapffpfggmnaaDoor
open Go.RowKit Go.Proofs.YtipapffpfggmnaaDoorW.PrintWords Go.Proofs.YtipapffpfggmnaaDoorW.PrintLast Go.Proofs.YtipapffpfggmnaaDoorW.PrintMore Go.Proofs.YtipapffpfggmnaaDoor.PRef Go.Proofs.YtipapffpfggmnaaDoor.PS
set_option linter.unusedVariables false
section
variable {P : Program} {ops : Array Oper} {rest : List Oper} {o : Oper} {a : Act} {w : World} {Q : Act → Prop}
theorem still_load (hw : Region.wanted o (yielded ops a.tmps) = true) (ty : TypeId) (x : Operand) (ho : o.op = .load ty x) (b off : Nat) (hx : a.eval x = .pointer (some ⟨b, off, none⟩)) (cs : List Value) (d : TypeDesc) (hc : w.rangeAt b off cs)
    (hu : P.underlying ty = some d) (hd : d.isRow = true) (hi : (P.info? ty).map (·.size) = some cs.length) (h : wpStill P ops w Q rest (a.put o.dst (.agg cs.toArray))) : wpStill P ops w Q (o :: rest) a := by
  refine wpStill_step (fun K hK => ?_)
  rw [if_pos hw]
  unfold Oper.still execOp
  simp only [ho, hx, Sem.run_bind, run_loadAt_mid w b off ty cs d hc hu hd hi, Result.andThen_ok, Sem.run_pure]
  exact ⟨rfl, hK _ h⟩
end
theorem range_row {w : World} {b : Nat} {k : IntKind} {l : List Int} {t : TypeId} (h : w.heap[b]? = some (.cells (nums k l).toArray t (0, 0))) : w.rangeAt b 0 (nums k l) := fun j v hv => by
  rw [cell_of_row w b (0 + j) _ t (0, 0) h, Nat.zero_add, List.getElem?_toArray]; exact hv
theorem range_C {w : World} {g : Nat} {k : IntKind} {l : List Int} (h : Kd.C (Kd.int k) w (some ⟨g, 0, none⟩) l.length l) (i n : Nat) (hin : i + n ≤ l.length) : w.rangeAt g i (nums k ((l.drop i).take n)) := fun j v hv => by
  unfold nums at hv
  rw [List.getElem?_map] at hv
  cases hq : ((l.drop i).take n)[j]? with
  | none => rw [hq] at hv; cases hv
  | some q =>
    rw [hq] at hv
    cases hv
    have hj : j < n := by
      have := (List.getElem?_eq_some_iff.1 hq).1
      rw [List.length_take] at this; omega
    rw [List.getElem?_take, if_pos hj, List.getElem?_drop] at hq
    obtain ⟨ad, ha, hc⟩ := Kd.at_int h ((i + j : Nat) : Int) (by omega) (by omega)
    cases ha
    rw [Int.toNat_natCast, add_plain] at hc
    rw [hc]
    unfold rd
    rw [Int.toNat_natCast, List.getD_eq_getElem?_getD, hq]
    rfl
theorem chunks_succ (f : List Int → List Int → List Int) : ∀ (k : Nat) (s l : List Int), chunks f (k + 1) s l = f (chunks f k s l) ((l.drop (64 * k)).take 64)
  | 0, s, l => rfl
  | k + 1, s, l => by
    have e := chunks_succ f k (f s (l.take 64)) (l.drop 64)
    rw [List.drop_drop] at e
    have e2 : 64 * (k + 1) = 64 + 64 * k := by omega
    rw [chunks, e, e2]; rfl
structure RSumInv (w : World) (nS nT g : Nat) (all : List Int) (S : List Int) (wr : World) : Prop where
  hS : wr.heap[nS]? = some (.cells (nums .u32 S).toArray 104 (0, 0))
  hT : wr.heap[nT]? = some (.cells (nums .u32 KTab).toArray 125 (0, 0))
  hA : Kd.C (Kd.int .u8) wr (some ⟨g, 0, none⟩) all.length all
  hR : wr.heap[w.heap.size]? = some (.cells (nums .u8 (List.replicate 32 0)).toArray 24 (0, 0))
  l8 : S.length = 8
  bel : Below w.heap.size w wr
theorem RSumInv.step {w : World} {nS nT g : Nat} {all S : List Int} {wr w1 : World} (h : RSumInv w nS nT g all S wr) (h1 : w.heap.size < nS) (h2 : g ≠ nS) (hb : Below wr.heap.size wr w1) {S' : List Int} (hs : S'.length = 8) : RSumInv w nS nT g all S' (w1.setRow nS (nums .u32 S').toArray) := by
  have n1 : nT ≠ nS := blk_ne h.hT h.hS (by decide)
  exact ⟨setRow_heap _ _ _ _ _ _ (blk_below h.hS hb), (setRow_other _ _ _ _ n1).trans (blk_below h.hT hb), C_row (Kd.C_below h.hA hb) (fun _ ad ha => by cases ha; exact h2) _, (setRow_other _ _ _ _ (by omega)).trans (blk_below h.hR hb), hs, below_setRow (h.bel.trans (hb.mono h.bel.size)) (by omega) _⟩
theorem RSumInv.of {w : World} {nS nT g : Nat} {all S S' : List Int} {wr : World} (h : RSumInv w nS nT g all S wr) (e : S = S') : RSumInv w nS nT g all S' wr := e ▸ h
theorem RSumInv.below {w : World} {nS nT g : Nat} {all S : List Int} {wr w1 : World} (h : RSumInv w nS nT g all S wr) (hb : Below wr.heap.size wr w1) : RSumInv w nS nT g all S w1 :=
  ⟨blk_below h.hS hb, blk_below h.hT hb, Kd.C_below h.hA hb, blk_below h.hR hb, h.l8, h.bel.trans (hb.mono h.bel.size)⟩
theorem run_arrayAt64 (a : Addr) (c : Nat) (w : World) : (Instr.arrayAt 80 (.slice (some a) 64 c)).run Tryd.prog w = .ok (.pointer (some a)) w := by
  simp [Instr.arrayAt, underlying, Tryd.underlying80, Result.andThen]
theorem RSumInv.drew {w : World} {nS nT g : Nat} {all S : List Int} {wr : World} (h : RSumInv w nS nT g all S wr) : RSumInv w nS nT g all S wr.drew := ⟨h.hS, h.hT, h.hA, h.hR, h.l8, below_drew0 h.bel⟩
theorem outP_next (s : List Int) (j : Nat) : (outP s j).set j (rd s ((j / 4 : Nat) : Int) / 2 ^ (24 - 8 * (j % 4)) % 256) = outP s (j + 1) := rfl
structure ROut (w : World) (n9 nS : Nat) (S L : List Int) (wr : World) : Prop where
  out : OutInv w n9 L wr
  hS : wr.heap[nS]? = some (.cells (nums .u32 S).toArray 104 (0, 0))
theorem ROut.cell {w : World} {n9 nS : Nat} {S L : List Int} {wr : World} (h : ROut w n9 nS S L wr) (i : Nat) (v : Int) : ROut w n9 nS S (L.set i v) (wr.setCell ⟨n9, i, none⟩ (.int .u8 v)) :=
  ⟨h.out.cell i v, blk_far h.hS (p := ⟨n9, i, none⟩) (blk_ne h.hS h.out.hO (by decide)) _⟩
theorem info5' : (Tryd.prog.info? 5).map (fun i => (i.zero, i.size, i.bytes)) = some (some (.int .u8 0), 1, 1) := by kernel_rfl
theorem R_lit_nums (W : World) (base e : Nat) (k : IntKind) (xs : List Int) (hb : base ≤ W.heap.size) (hm : xs.length ≤ 9223372036854775807) : Kd.R (Kd.int k) e (W.alloc (.cells (nums k xs).toArray e)) base (fun _ => True) (.slice (some ⟨W.heap.size, 0, none⟩) xs.length xs.length) xs :=
  Kd.R_of_own (own_lit W base e k xs hb hm) (fun _ _ => trivial)
set_option maxHeartbeats 8000000 in
set_option maxRecDepth 100000 in
theorem RSum_any (A : Option Addr) (c : Nat) (l : List Int) (w : World) (hC : Kd.C (Kd.int .u8) w A l.length l) (hc : l.length ≤ c) (hb : Bytes l) (hL : l.length ≤ 100000000) :
    Calls Tryd.prog 58 #[.slice A l.length c] w (AggPost .u8 (shaF l) w) := by
  have HC := Lib.hid hC
  have HBY := Lib.hid hb
  clear hC hb
  go_enter Tryd.func58, Tryd.ntmps58
  have hr0 := R_lit_nums (w.alloc (.cells #[.int .u8 0, .int .u8 0, .int .u8 0, .int .u8 0, .int .u8 0, .int .u8 0, .int .u8 0, .int .u8 0, .int .u8 0, .int .u8 0, .int .u8 0, .int .u8 0, .int .u8 0, .int .u8 0, .int .u8 0, .int .u8 0, .int .u8 0, .int .u8 0, .int .u8 0, .int .u8 0, .int .u8 0, .int .u8 0, .int .u8 0, .int .u8 0, .int .u8 0, .int .u8 0, .int .u8 0, .int .u8 0, .int .u8 0, .int .u8 0, .int .u8 0, .int .u8 0] 24)) w.heap.size 5 .u8 [] (by simp) (by decide)
  rw [World.size_alloc] at hr0
  have hR0 : Hid (Kd.R (Kd.int .u8) 5 ((w.alloc (.cells #[.int .u8 0, .int .u8 0, .int .u8 0, .int .u8 0, .int .u8 0, .int .u8 0, .int .u8 0, .int .u8 0, .int .u8 0, .int .u8 0, .int .u8 0, .int .u8 0, .int .u8 0, .int .u8 0, .int .u8 0, .int .u8 0, .int .u8 0, .int .u8 0, .int .u8 0, .int .u8 0, .int .u8 0, .int .u8 0, .int .u8 0, .int .u8 0, .int .u8 0, .int .u8 0, .int .u8 0, .int .u8 0, .int .u8 0, .int .u8 0, .int .u8 0, .int .u8 0] 24)).alloc (.cells #[] 5)) w.heap.size (fun _ => True) (.slice (some ⟨w.heap.size + 1, 0, none⟩) 0 0) []) := Lib.hid hr0
  clear hr0
  have hB0 := Lib.hid ((below_alloc (below_alloc (Below.refl w.heap.size w) (.cells #[.int .u8 0, .int .u8 0, .int .u8 0, .int .u8 0, .int .u8 0, .int .u8 0, .int .u8 0, .int .u8 0, .int .u8 0, .int .u8 0, .int .u8 0, .int .u8 0, .int .u8 0, .int .u8 0, .int .u8 0, .int .u8 0, .int .u8 0, .int .u8 0, .int .u8 0, .int .u8 0, .int .u8 0, .int .u8 0, .int .u8 0, .int .u8 0, .int .u8 0, .int .u8 0, .int .u8 0, .int .u8 0, .int .u8 0, .int .u8 0, .int .u8 0, .int .u8 0] 24)) (.cells #[] 5)))
  have hC0 := Lib.hid (Kd.C_below HC.out hB0.out)
  have hret := Lib.hid ((heap_alloc_old (w.alloc (.cells #[.int .u8 0, .int .u8 0, .int .u8 0, .int .u8 0, .int .u8 0, .int .u8 0, .int .u8 0, .int .u8 0, .int .u8 0, .int .u8 0, .int .u8 0, .int .u8 0, .int .u8 0, .int .u8 0, .int .u8 0, .int .u8 0, .int .u8 0, .int .u8 0, .int .u8 0, .int .u8 0, .int .u8 0, .int .u8 0, .int .u8 0, .int .u8 0, .int .u8 0, .int .u8 0, .int .u8 0, .int .u8 0, .int .u8 0, .int .u8 0, .int .u8 0, .int .u8 0] 24)) (.cells #[] 5) (show w.heap.size < _ by simp)).trans (heap_alloc_last w _))
  go_wp2_with ((with_reducible refine gate_builtin (b := .append) (xs := #[.tmp 9, .tmp 10]) rfl ?_); at_builtin; refine Kd.R_append_rows (Kd.int .u8) (w0 := w) w.heap.size rfl (.tmp 9) (.tmp 10) 22 5 (.int .u8 0) 1 rfl Tryd.underlying22 info5' rfl (by decide) (by decide) (.slice (some ⟨w.heap.size + 1, 0, none⟩) 0 0) [] l A l.length c (fun _ => True) (fun _ => False) rfl rfl hR0.out hC0.out (fun _ _ h => h) (fun _ h => h.elim) (fun _ _ => trivial) hB0.out (by simp <;> omega) (by simp; omega) ?_; intro v1 w1 hR1 hB1 hg1 hat1; have HR1 := Lib.hid hR1; have HB1 := Lib.hid hB1; have HRT1 := Lib.hid (blk_grown hret.out hg1 (by simp [Value.ownBlock])); clear hR1 hB1 hg1 hat1)
  refine (vestryref06_Padding.calls _ (l.length : Int) (padL l.length) _ (padR_eq l.length (by omega)).choose_spec).mono ?_
  rintro e2 w2 ⟨v2, rfl, hR2, hb2⟩
  obtain ⟨A2, c2, rfl, hc2, hC2⟩ := Kd.R_reads hR2
  have HR1' := Lib.hid (Kd.R_below HR1.out hb2)
  have HB2 := Lib.hid (HB1.out.trans (hb2.mono HB1.out.size))
  have HRT2 := Lib.hid (blk_below HRT1.out hb2)
  have HC2 := Lib.hid hC2
  have hps := padL_short l.length
  have hbn := HB2.out.size
  clear hR2 hb2 hC2
  rw [List.nil_append] at HR1'
  go_wp2_with ((with_reducible refine gate_builtin (b := .append) (xs := #[.tmp 11, .tmp 14]) rfl ?_); at_builtin; refine Kd.R_append_rows (Kd.int .u8) (w0 := w) w.heap.size rfl (.tmp 11) (.tmp 14) 22 5 (.int .u8 0) 1 rfl Tryd.underlying22 info5' rfl (by decide) (by decide) v1 l (padL l.length) A2 (padL l.length).length c2 (fun _ => True) (fun _ => False) rfl rfl HR1'.out HC2.out (fun _ _ h => h) (fun _ h => h.elim) (fun _ _ => trivial) HB2.out hbn (by omega) ?_; intro v3 w3 hR3 hB3 hg3 hat3; have HR3 := Lib.hid hR3; have HB3 := Lib.hid hB3; have HG3 := Lib.hid hg3; clear hR3 hB3 hg3 hat3)
  have HRT3 := Lib.hid (blk_grown HRT2.out HG3.out (Kd.R_ne HR1'.out HRT2.out (by decide)))
  obtain ⟨all, hall⟩ : ∃ all, all = l ++ padL l.length := ⟨_, rfl⟩
  rw [← hall] at HR3
  have hlen : all.length = l.length + (padL l.length).length := by rw [hall, List.length_append]
  have hm64 := padL_len l.length
  rw [← hlen] at hm64
  have hbys : Bytes all := by
    intro x hx
    rw [hall, List.mem_append] at hx
    rcases hx with hx | hx
    · exact HBY.out x hx
    · exact padL_bytes _ x hx
  have hpos : 0 < all.length := by
    have : 0 < (padL l.length).length := by unfold padL; rw [List.length_cons]; omega
    omega
  have hle : all.length ≤ 100001000 := by omega
  obtain ⟨g, cap, hv3, hgb, hgl, _⟩ := Kd.R_form HR3.out hpos
  subst hv3
  obtain ⟨_, hcap, hC3⟩ := Kd.R_reads' HR3.out
  have HC3 := Lib.hid hC3
  have HALL := Lib.hid hall
  have HM64 := Lib.hid hm64
  have HBYS := Lib.hid hbys
  clear hall hlen hm64 hbys hC3 HR3 HR1' HRT2 HB2 HC2 HR1 HB1 HRT1 hR0 hB0 hC0 hret HG3 hbn hc2 hps
  have hb3 := HB3.out.size
  refine (RStart_any _).mono ?_
  rintro e4 w4 ⟨rfl, hb4⟩
  have HB4 := Lib.hid hb4
  have hb4s := hb4.size
  clear hb4
  go_wp2_with ((with_reducible refine gate_store (t := 104) (p := 4) rfl ?_); (refine wpList_store_row rfl 104 _ _ rfl _ (nums .u32 startL).toArray rfl rfl 104 _ (heap_alloc_last _ _) i8 rfl (oneCell_nums _ _) ?_); rw [World.setRow_alloc_new])
  refine (RTable_any _).mono ?_
  rintro e5 w5 ⟨rfl, hb5⟩
  have HB5 := Lib.hid hb5
  have hb5s := hb5.size
  rw [World.size_alloc] at hb5s
  clear hb5
  go_wp2_with ((with_reducible refine gate_store (t := 125) (p := 5) rfl ?_); (refine wpList_store_row rfl 125 _ _ rfl _ (nums .u32 KTab).toArray rfl rfl 125 _ (heap_alloc_last _ _) i64t rfl (oneCell_nums _ _) ?_); rw [World.setRow_alloc_new])
  have hI0 : RSumInv w w4.heap.size w5.heap.size g all startL (w5.alloc (.cells (nums .u32 KTab).toArray 125)) := by
    have e1 := blk_below (heap_alloc_last w4 (.cells (nums .u32 startL).toArray 104)) HB5.out
    have b1 : Below w3.heap.size w3 w5 := (HB4.out.trans ((below_alloc (Below.refl _ _) _).mono hb4s)).trans (HB5.out.mono (by rw [World.size_alloc]; omega))
    have r5 := blk_below HRT3.out b1
    exact ⟨(heap_alloc_old _ _ (blk_lt e1)).trans e1, heap_alloc_last _ _, Kd.C_alloc (Kd.C_below HC3.out b1) _, (heap_alloc_old _ _ (blk_lt r5)).trans r5, rfl, (HB3.out.trans (b1.mono hb3)).alloc (by omega) _⟩
  have HI0 := Lib.hid hI0
  have hlow : w.heap.size < w4.heap.size := by have := blk_lt HRT3.out; omega
  have hgn : g ≠ w4.heap.size := by omega
  clear hI0 HB4 HB5 HRT3 HC3 HB3
  generalize w4.heap.size = nS at *
  generalize w5.heap.size = nT at *
  go_loopw [6] (fun v wr => ∃ k : Nat, 64 * k ≤ all.length ∧ v = .int .i64 (64 * (k : Int)) ∧ RSumInv w nS nT g all (chunks blkF k startL all) wr) (fun v _ => all.length - (intOf v).toNat)
  case atStart => exact ⟨0, by omega, rfl, HI0.out⟩
  case round =>
    obtain ⟨k, hk, rfl, hI⟩ := hrel
    have HI := Lib.hid hI
    clear hI HI0
    by_cases hlt : 64 * k < all.length
    · have hm := HM64.out
      have hk64 : 64 * k + 64 ≤ all.length := by omega
      have hcs := chunks_succ blkF k startL all
      have HCS := Lib.hid hcs
      have hbyk : Bytes ((all.drop (64 * k)).take 64) := fun x hx => HBYS.out x (List.mem_of_mem_drop (List.mem_of_mem_take hx))
      have hlk : ((all.drop (64 * k)).take 64).length = 64 := by rw [List.length_take, List.length_drop]; omega
      have hrng := range_C HI.out.hA (64 * k) 64 hk64
      obtain ⟨S, hS⟩ : ∃ S, S = chunks blkF k startL all := ⟨_, rfl⟩
      obtain ⟨B, hB⟩ : ∃ B, B = (all.drop (64 * k)).take 64 := ⟨_, rfl⟩
      rw [← hS] at HI
      rw [← hB] at hbyk hlk hrng
      have HSB := Lib.hid (show chunks blkF (k + 1) startL all = blkF S B by rw [hcs, hS, hB])
      have HBYK := Lib.hid hbyk
      have HLK := Lib.hid hlk
      have HRNG := Lib.hid hrng
      have hi8 := Lib.hid (show (Tryd.prog.info? 104).map (·.size) = some (nums .u32 S).length by rw [nums_length, HI.out.l8]; exact i8)
      have hi64 := Lib.hid (show (Tryd.prog.info? 80).map (·.size) = some (nums .u8 B).length by rw [nums_length, hlk]; exact i64b)
      have hi64t := Lib.hid (show (Tryd.prog.info? 125).map (·.size) = some (nums .u32 KTab).length from i64t)
      have n0 : (64 * (k : Int)).toNat = 64 * k := by omega
      have n1 : (64 * (k : Int) + 64).toNat = 64 * k + 64 := by omega
      have b0 : (0 : Int) ≤ 64 * (k : Int) := by omega
      have b1 : 64 * (k : Int) ≤ 64 * (k : Int) + 64 := by omega
      have b2 : 64 * (k : Int) + 64 ≤ (cap : Int) := by omega
      have b3 : (0 : Int) ≤ 64 * (k : Int) + 64 := by omega
      have b4 : 64 * (k : Int) < (all.length : Int) := by omega
      have b5 : ¬ (cap = 64 * k) := by omega
      have hkb : 64 * k ≤ 1000000000 := by omega
      have e1 : IntKind.i64.wrap (64 * (k : Int) + 64) = 64 * (k : Int) + 64 := IntWalk.i64_in _ (by omega)
      have har := run_arrayAt64
      clear hcs hbyk hlk hrng hm hS hB
      go_wp2_with fail
      refine wp_region_still_tail 9 (by kernel_rfl) (by kernel_rfl) ?_
      simp only [List.take_succ_cons, List.take_zero, List.drop_succ_cons, List.drop_zero]
      refine still_load rfl 104 _ rfl nS 0 rfl (nums .u32 S) _ (range_row HI.out.hS) Tryd.underlying104 rfl hi8.out ?_
      still_step
      still_step
      still_step
      still_step
      still_step
      still_step
      refine still_load rfl 80 _ rfl g (64 * k) rfl (nums .u8 B) _ HRNG.out Tryd.underlying80 rfl hi64.out ?_
      refine still_load rfl 125 _ rfl nT 0 rfl (nums .u32 KTab) _ (range_row HI.out.hT) Tryd.underlying125 rfl hi64t.out ?_
      refine wpStill_nil ?_
      go_wp2_with fail
      refine (RBlock_any S B _ HI.out.l8 HLK.out HBYK.out).mono ?_
      rintro e6 w6 ⟨rfl, hb6⟩
      have hl8 := blkF_len S B HI.out.l8
      have HI2 := Lib.hid (HI.out.drew.step hlow hgn hb6 hl8)
      have HS6 := Lib.hid (blk_below HI.out.drew.hS hb6)
      have hi82 := Lib.hid (show (Tryd.prog.info? 104).map (·.size) = some (nums .u32 (blkF S B)).toArray.size by rw [List.size_toArray, nums_length, hl8]; exact i8)
      have hsz := Lib.hid (show (nums .u32 S).toArray.size = (nums .u32 (blkF S B)).toArray.size by rw [List.size_toArray, nums_length, List.size_toArray, nums_length, hl8]; exact HI.out.l8)
      clear hb6 hl8 har
      go_wp2_with ((with_reducible refine gate_store (t := 104) (p := 4) rfl ?_); (refine wpList_store_row rfl 104 _ _ rfl _ _ rfl rfl 104 _ HS6.out hi82.out hsz.out (oneCell_nums _ _) ?_))
      go_roundw
      case rel => exact ⟨k + 1, by omega, by go_num, by rw [HSB.out]; exact HI2.out⟩
      case measure => simp [intOf]; omega
    · have hm := HM64.out
      have hke : k = all.length / 64 := by omega
      have hS64 : chunks blkF k startL all = shaS l := by
        unfold shaS
        rw [← List.length_append, ← HALL.out, ← hke]
      rw [hS64] at HI
      have hge : ¬ (64 * (k : Int) < (all.length : Int)) := by omega
      obtain ⟨S, hS⟩ : ∃ S, S = shaS l := ⟨_, rfl⟩
      rw [← hS] at HI
      have HSS := Lib.hid hS
      clear hm hke hS64 hlt hk hS
      go_wp2_with fail
      have hO0 : ROut w wr.heap.size nS S (outP S 0) (wr.alloc (.cells #[.int .u8 0, .int .u8 0, .int .u8 0, .int .u8 0, .int .u8 0, .int .u8 0, .int .u8 0, .int .u8 0, .int .u8 0, .int .u8 0, .int .u8 0, .int .u8 0, .int .u8 0, .int .u8 0, .int .u8 0, .int .u8 0, .int .u8 0, .int .u8 0, .int .u8 0, .int .u8 0, .int .u8 0, .int .u8 0, .int .u8 0, .int .u8 0, .int .u8 0, .int .u8 0, .int .u8 0, .int .u8 0, .int .u8 0, .int .u8 0, .int .u8 0, .int .u8 0] 24)) := ⟨⟨⟨_, (heap_alloc_old _ _ (blk_lt HI.out.hR)).trans HI.out.hR, by rw [List.size_toArray, nums_length]; rfl⟩, heap_alloc_last _ _, blk_lt HI.out.hR, HI.out.bel.alloc HI.out.bel.size _⟩, (heap_alloc_old _ _ (blk_lt HI.out.hS)).trans HI.out.hS⟩
      have HO0 := Lib.hid hO0
      have h8s := Lib.hid HI.out.l8
      clear hO0 hge HI
      generalize wr.heap.size = n9 at *
      go_loopw [8] (fun v wr => ∃ j : Nat, j ≤ 32 ∧ v = .int .i64 (j : Int) ∧ ROut w n9 nS S (outP S j) wr) (fun v _ => 32 - (intOf v).toNat)
      case atStart => exact ⟨0, by omega, rfl, HO0.out⟩
      case round =>
        obtain ⟨j, hj, rfl, hI⟩ := hrel
        have HI := Lib.hid hI
        clear hI HO0
        by_cases hlt : j < 32
        · have q0 := cell_nums HI.out.hS (j / 4) (by rw [h8s.out]; omega)
          have q1 := cell_nums HI.out.out.hO j (by rw [outP_len]; exact hlt)
          have f1 := blk_frozen HI.out.out.hO j
          have n0 : ((j : Int) / 4).toNat = j / 4 := by omega
          have n1 : (24 - 8 * ((j : Int) % 4)).toNat = 24 - 8 * (j % 4) := by omega
          have b0 : (0 : Int) ≤ (j : Int) / 4 := by omega
          have b1 : (j : Int) / 4 < 8 := by omega
          have b2 : (0 : Int) ≤ (j : Int) % 4 := by omega
          have b3 : (j : Int) % 4 < 4 := by omega
          have b4 : (0 : Int) ≤ 24 - 8 * ((j : Int) % 4) := by omega
          have b5 : 24 - 8 * ((j : Int) % 4) < 32 := by omega
          go_wp2_with fail
          go_roundw
          case rel => exact ⟨j + 1, by omega, by go_num, HI.out.cell j _⟩
          case measure => simp [intOf]; omega
        · have hj32 : j = 32 := by omega
          rw [hj32] at HI
          have hge : ¬ ((j : Int) < 32) := by omega
          clear hj hlt hj32
          obtain ⟨cr, hc2, hcs2⟩ := HI.out.out.hR
          have HC2 := Lib.hid hc2
          have HCS2 := Lib.hid hcs2
          have hsz := Lib.hid (show (nums .u8 (outP S 32)).toArray.size = 32 by rw [List.size_toArray, nums_length]; exact outP_len _ _)
          have hii2 := Lib.hid (show (Tryd.prog.info? 24).map (·.size) = some (nums .u8 (outP S 32)).toArray.size by rw [hsz.out]; exact i32b)
          clear hc2 hcs2
          go_wp2_with (first | ((with_reducible refine gate_dst (N := 51) rfl ?_); (refine wpList_load_row rfl 24 _ rfl _ rfl 24 _ (0, 0) _ HI.out.out.hO Tryd.underlying24 rfl hii2.out ?_)) | ((with_reducible refine gate_store (t := 24) (p := 2) rfl ?_); (refine wpList_store_row rfl 24 _ _ rfl _ _ rfl rfl 24 _ HC2.out hii2.out (HCS2.out.trans hsz.out.symm) (oneCell_nums _ _) ?_)))
          refine bodyPost_ret (v := .agg (nums .u8 (outP S 32)).toArray) (results_cell_row Tryd.results58 _ _ _ _ _ (0, 0) _ rfl (setRow_heap _ _ _ _ _ _ HC2.out) Tryd.underlying24 rfl hii2.out) rfl ⟨?_, below_setRow HI.out.out.bel (Nat.le_refl _) _⟩
          rw [HSS.out]; rfl
end Go.Proofs.YtipapffpfggmnaaDoor
