/-
  strings.Builder: copyCheck and WriteByte at this program's numbers. The plain law of base Encode and Decode: bits, groups; no Go in sight. Lemmas of base.regroup: the bits that are left over, in numbers. The contract of base.regroup at the closure of E. The contract of base.regroup at the closure of D. The contract of base.Encode's closure. The contract of base.Encode. The contract of base.Decode's closure. The contract of base.Value. The contract of base.Decode.
-/
import Derived.Test.YtipapffpfggmnaaDoorMMac
import Derived.Test.YtipapffpfggmnaaDoorShelf
import Derived.Lib.Builder
import Derived.Lib.Walk
import Derived.OwnWalk
import Derived.Outline
import Derived.Test.YtipapffpfggmnaaDoorMSha
import Derived.Laws.MakeOwn
namespace Go.Proofs.YtipapffpfggmnaaDoor
open Go.RowKit Go.Proofs.YtipapffpfggmnaaDoorW.PrintWords Go.Proofs.YtipapffpfggmnaaDoorW.PrintLast Go.Proofs.YtipapffpfggmnaaDoorW.PrintMore Go.Proofs.YtipapffpfggmnaaDoor.PRef
set_option linter.unusedVariables false
set_option maxRecDepth 100000 in
theorem check_nil (b : Nat) (w : World) (h0 : w.cell? ⟨b, 0, none⟩ = some (.pointer none)) (hsh : w.shape? b = some (86, 2)) (hfz : w.frozen? ⟨b, 0, none⟩ = false) : Calls Tryd.prog 66 #[.pointer (some ⟨b, 0, none⟩)] w fun e w' => e = .returned (.tuple #[]) ∧ w' = w.setCell ⟨b, 0, none⟩ (.pointer (some ⟨b, 0, none⟩)) := by
  have X := Tryd.Builder_Extra_169
  obtain ⟨j, hj, hjs⟩ := Option.map_eq_some_iff.1 X.sizeBuilder
  go_enter Tryd.func66, Tryd.ntmps66
  go_wp2
  rw [Lib.run_to_unsafe w ⟨b, 0, none⟩ Tryd.underlying84 Tryd.underlying113 hj (by rw [hjs]; decide) hsh (Nat.zero_lt_succ 1)]
  simp only [Result.andThen]
  rw [Oper.upon_value]
  go_wp2
  rw [run_callFunc_extern Tryd.func77 (by kernel_rfl) (by kernel_rfl) (by kernel_rfl) (e := Extern.AbiNoEscape.same) (by kernel_rfl)]
  rw [Lib.run_noEscape]
  simp only [Result.andThen]
  rw [Oper.upon_value]
  go_wp2
  rw [Lib.run_from_unsafe w ⟨b, 0, none⟩ Tryd.underlying113 Tryd.underlying84 hj hsh X.liesBuilder]
  simp only [Result.andThen]
  rw [Oper.upon_value]
  go_wp2
  go_end0
  exact ⟨rfl, rfl⟩
set_option maxRecDepth 100000 in
theorem check_own (b : Nat) (w : World) (h0 : w.cell? ⟨b, 0, none⟩ = some (.pointer (some ⟨b, 0, none⟩))) : Calls Tryd.prog 66 #[.pointer (some ⟨b, 0, none⟩)] w fun e w' => e = .returned (.tuple #[]) ∧ w' = w := by
  have X := Tryd.Builder_Extra_169
  obtain ⟨j, hj, _⟩ := Option.map_eq_some_iff.1 X.sizeBuilder
  go_enter Tryd.func66, Tryd.ntmps66
  go_wp2
  rw [Lib.run_neq_ptr_same w _ Tryd.underlying84 hj]
  go_wp2
  go_end0
  exact ⟨rfl, rfl⟩
theorem check_any (B b : Nat) (bs : List Value) (w : World) (h : Lib.IsBuilder 86 5 B b bs w) :
    Calls Tryd.prog 66 #[.pointer (some ⟨b, 0, none⟩)] w fun e w' => e = .returned (.tuple #[]) ∧ (Lib.BuilderAt 86 5 B b (.pointer (some ⟨b, 0, none⟩)) bs w' ∧ Below B w w') := by
  rcases h with h | h
  · refine (check_nil b w h.cell0 h.shape h.frozen0).mono ?_
    rintro e w' ⟨rfl, rfl⟩
    exact ⟨rfl, h.used _, (Below.refl B w).setCell (p := ⟨b, 0, none⟩) h.1 _⟩
  · refine (check_own b w h.cell0).mono ?_
    rintro e w' ⟨rfl, rfl⟩
    exact ⟨rfl, h, Below.refl B _⟩
set_option maxHeartbeats 2000000 in
set_option maxRecDepth 100000 in
theorem WB_any (B b : Nat) (bs : List Value) (c : Int) (w : World) (h : Lib.IsBuilder 86 5 B b bs w) (hlen : bs.length + 1 ≤ 140737488355328) (hBw : B ≤ w.heap.size) :
    Calls Tryd.prog 50 #[.pointer (some ⟨b, 0, none⟩), .int .u8 c] w fun e w' => e = .returned .nilIface ∧ (Lib.BuilderAt 86 5 B b (.pointer (some ⟨b, 0, none⟩)) (bs ++ [.int .u8 c]) w' ∧ Below B w w') := by
  have X := Tryd.Builder_Extra_169
  obtain ⟨i0, hi, hz0, hz1, hz2⟩ := info_parts X.infoByte
  go_enter Tryd.func50, Tryd.ntmps50
  go_wp2_with (go_at_call 66; refine (check_any B b bs _ h).mono ?_)
  rintro e w1 ⟨rfl, h1, hb1⟩
  obtain ⟨hB, v, hbk, hown, hne⟩ := h1
  have c0 : w1.cell? ⟨b, 0, none⟩ = some (.pointer (some ⟨b, 0, none⟩)) := by rw [Lib.cell_of_heap hbk]; rfl
  have c1 : w1.cell? ⟨b, 1, none⟩ = some v := by rw [Lib.cell_of_heap hbk]; rfl
  go_wp2_with (at_builtin; refine wpList_append_own _ rfl _ _ 22 rfl B 5 i0 (.int .u8 0) 1 1 Tryd.underlying22 hi hz0 hz1 hz2 rfl (by decide) _ _ _ rfl (hown.alloc _) ⟨w1.heap.size, 0, none⟩ 1 1 [.int .u8 c] rfl rfl ?c1 ?c2 ?c3 ?c4 ?c5 ?_)
  case c1 =>
    intro j u hj
    match j, hj with
    | 0, hj => simp at hj; subst hj; simp [Addr.add]
  case c2 => intro u hu; simp at hu; subst hu; rfl
  case c3 => unfold maxLen; omega
  case c4 => omega
  case c5 => have := hb1.size; simp; omega
  intro v' w2 hown' hgrow _
  have hlt : b < w1.heap.size := by
    rcases Nat.lt_or_ge b w1.heap.size with h' | h'
    · exact h'
    · simp [Array.getElem?_eq_none h'] at hbk
  have hb2 : w2.heap[b]? = some (.cells #[.pointer (some ⟨b, 0, none⟩), v] 86 (0, 0)) := by
    rw [hgrow.block b (by simp; omega) (fun e => hne e.symm), Lib.alloc_old w1 _ b hlt]
    exact hbk
  have d0 : w2.cell? ⟨b, 0, none⟩ = some (.pointer (some ⟨b, 0, none⟩)) := by rw [Lib.cell_of_heap hb2]; rfl
  have d1 : w2.cell? ⟨b, 1, none⟩ = some v := by rw [Lib.cell_of_heap hb2]; rfl
  have f1 : w2.frozen? ⟨b, 1, none⟩ = false := Lib.frozen_of_heap hb2 1
  obtain ⟨g, cap, rfl⟩ : ∃ g cap, v' = .slice (some ⟨g, 0, none⟩) (bs.length + 1) cap := by
    rcases hown'.2 with ⟨_, h0⟩ | ⟨g, cap, cur, hv, _⟩
    · omega
    · exact ⟨g, cap, hv⟩
  go_wp2
  go_ret
  refine ⟨rfl, ?_, ?_⟩
  · exact Lib.BuilderAt.put (T := 86) (e := 5) hB hb2 (bs' := bs ++ [.int .u8 c]) (by simpa using hown') X.neB5
  · exact ((hb1.alloc (by have := hb1.size; omega) _).grown hgrow (by have := hb1.size; simp; omega) (fun k hk => (hown.lt k hk).1)).setCell (p := ⟨b, 1, none⟩) hB _
end Go.Proofs.YtipapffpfggmnaaDoor
namespace PB
/-- The k lowest bits of a number, the highest first. -/
def bits : Nat → Nat → List Nat
  | 0, _ => []
  | k + 1, v => bits k (v / 2) ++ [v % 2]
def val (l : List Nat) : Nat := l.foldl (fun a b => 2 * a + b) 0
/-- All are bits. -/
def Bit (l : List Nat) : Prop := ∀ b ∈ l, b < 2
theorem bits_len : ∀ k v, (bits k v).length = k
  | 0, _ => rfl
  | k + 1, v => by rw [bits, List.length_append, bits_len k]; rfl
theorem bits_bit : ∀ k v, Bit (bits k v)
  | 0, _, b, h => by cases h
  | k + 1, v, b, h => by
    rw [bits, List.mem_append] at h
    rcases h with h | h
    · exact bits_bit k _ b h
    · rw [List.mem_singleton.1 h]; omega
theorem val_nil : val [] = 0 := rfl
theorem val_snoc (l : List Nat) (b : Nat) : val (l ++ [b]) = 2 * val l + b := by unfold val; rw [List.foldl_append]; rfl
theorem foldl_val : ∀ (l : List Nat) (a : Nat), l.foldl (fun a b => 2 * a + b) a = a * 2 ^ l.length + val l
  | [], a => by simp [val]
  | b :: l, a => by
    unfold val
    rw [List.foldl_cons, List.foldl_cons, foldl_val l, foldl_val l (2 * 0 + b), List.length_cons, Nat.pow_succ, Nat.add_mul, Nat.mul_comm 2 a, Nat.mul_assoc, Nat.mul_comm 2, Nat.mul_zero, Nat.zero_add, Nat.add_assoc]
theorem val_app (a b : List Nat) : val (a ++ b) = val a * 2 ^ b.length + val b := by
  rw [← foldl_val]; unfold val; rw [List.foldl_append]
theorem val_cons (b : Nat) (l : List Nat) : val (b :: l) = b * 2 ^ l.length + val l := by
  have := val_app [b] l
  have e : val [b] = b := by simp [val]
  rw [e] at this
  exact this
theorem Bit.tail {b : Nat} {l : List Nat} (h : Bit (b :: l)) : Bit l := fun x hx => h x (List.mem_cons_of_mem _ hx)
theorem Bit.app {a b : List Nat} (ha : Bit a) (hb : Bit b) : Bit (a ++ b) := fun x hx => by
  rcases List.mem_append.1 hx with h | h
  · exact ha x h
  · exact hb x h
theorem Bit.take {a : List Nat} (h : Bit a) (n : Nat) : Bit (a.take n) := fun x hx => h x (List.mem_of_mem_take hx)
theorem Bit.drop {a : List Nat} (h : Bit a) (n : Nat) : Bit (a.drop n) := fun x hx => h x (List.mem_of_mem_drop hx)
theorem val_lt : ∀ {l : List Nat}, Bit l → val l < 2 ^ l.length
  | [], _ => by simp [val]
  | b :: l, h => by
    have h1 := val_lt h.tail
    have h2 := h b (List.mem_cons_self ..)
    rw [val_cons, List.length_cons, Nat.pow_succ]
    rcases (by omega : b = 0 ∨ b = 1) with rfl | rfl <;> omega
theorem val_bits : ∀ k v, v < 2 ^ k → val (bits k v) = v
  | 0, v, h => by simp at h; subst h; rfl
  | k + 1, v, h => by
    rw [bits, val_snoc, val_bits k (v / 2) (by rw [Nat.pow_succ] at h; omega)]; omega
/-- Lists of bits of one length with one value are the same. -/
theorem val_inj : ∀ {a b : List Nat}, Bit a → Bit b → a.length = b.length → val a = val b → a = b
  | [], [], _, _, _, _ => rfl
  | [], _ :: _, _, _, h, _ => by simp at h
  | _ :: _, [], _, _, h, _ => by simp at h
  | x :: a, y :: b, ha, hb, hl, hv => by
    have hl' : a.length = b.length := by simpa using hl
    have h1 := val_lt ha.tail
    have h2 := val_lt hb.tail
    have hx := ha x (List.mem_cons_self ..)
    have hy := hb y (List.mem_cons_self ..)
    rw [val_cons, val_cons, hl'] at hv
    rw [hl'] at h1
    have e : x = y ∧ val a = val b := by
      rcases (by omega : x = 0 ∨ x = 1) with rfl | rfl <;> rcases (by omega : y = 0 ∨ y = 1) with rfl | rfl <;> omega
    rw [e.1, val_inj ha.tail hb.tail hl' e.2]
theorem bits_val {l : List Nat} (h : Bit l) : bits l.length (val l) = l :=
  val_inj (bits_bit _ _) h (bits_len _ _) (val_bits _ _ (val_lt h))
/-- The first of two parts, and the second, out of the value of both. -/
theorem val_div (a b : List Nat) (hb : Bit b) : val (a ++ b) / 2 ^ b.length = val a := by
  rw [val_app, Nat.mul_comm, Nat.mul_add_div (Nat.two_pow_pos _), Nat.div_eq_of_lt (val_lt hb)]; omega
theorem val_mod (a b : List Nat) (hb : Bit b) : val (a ++ b) % 2 ^ b.length = val b := by
  rw [val_app, Nat.mul_comm, Nat.mul_add_mod, Nat.mod_eq_of_lt (val_lt hb)]
/-- The bits of all numbers. -/
def allBits (k : Nat) (l : List Nat) : List Nat := l.flatMap (bits k)
theorem allBits_len (k : Nat) : ∀ l, (allBits k l).length = k * l.length
  | [] => rfl
  | x :: l => by
    have : allBits k (x :: l) = bits k x ++ allBits k l := rfl
    rw [this, List.length_append, bits_len, allBits_len k l, List.length_cons, Nat.mul_succ]; omega
theorem allBits_bit (k : Nat) : ∀ l, Bit (allBits k l)
  | [] => fun b h => by cases h
  | x :: l => by
    have : allBits k (x :: l) = bits k x ++ allBits k l := rfl
    rw [this]; exact (bits_bit k x).app (allBits_bit k l)
theorem allBits_app (k : Nat) (a b : List Nat) : allBits k (a ++ b) = allBits k a ++ allBits k b := by unfold allBits; rw [List.flatMap_append]
theorem allBits_cons (k x : Nat) (l : List Nat) : allBits k (x :: l) = bits k x ++ allBits k l := rfl
/-- The whole groups of k bits. -/
def groups (k : Nat) : Nat → List Nat → List Nat
  | 0, _ => []
  | n + 1, l => val (l.take k) :: groups k n (l.drop k)
theorem groups_len (k : Nat) : ∀ n l, (groups k n l).length = n
  | 0, _ => rfl
  | n + 1, l => by rw [groups, List.length_cons, groups_len k n]
theorem groups_snoc (k : Nat) : ∀ n l, groups k (n + 1) l = groups k n l ++ [val ((l.drop (k * n)).take k)]
  | 0, l => by simp [groups]
  | n + 1, l => by
    rw [groups, groups_snoc k n]
    have e : k * (n + 1) = k + k * n := by rw [Nat.mul_succ]; omega
    rw [groups, List.drop_drop, List.cons_append, e]
theorem groups_allBits (k : Nat) : ∀ (l r : List Nat), (∀ x ∈ l, x < 2 ^ k) → groups k l.length (allBits k l ++ r) = l
  | [], _, _ => rfl
  | x :: l, r, h => by
    rw [List.length_cons, groups, allBits_cons, List.append_assoc]
    have e1 : ((bits k x) ++ (allBits k l ++ r)).take k = bits k x := by rw [List.take_append_of_le_length (by rw [bits_len]; exact Nat.le_refl _), List.take_of_length_le (by rw [bits_len]; exact Nat.le_refl _)]
    have e2 : ((bits k x) ++ (allBits k l ++ r)).drop k = allBits k l ++ r := by
      have := List.drop_left (l₁ := bits k x) (l₂ := allBits k l ++ r); rw [bits_len] at this; exact this
    rw [e1, e2, val_bits _ _ (h x (List.mem_cons_self ..)), groups_allBits k l r fun y hy => h y (List.mem_cons_of_mem _ hy)]
theorem allBits_groups (k : Nat) : ∀ (n : Nat) (l : List Nat), Bit l → k * n ≤ l.length → allBits k (groups k n l) = l.take (k * n)
  | 0, l, _, _ => by simp [groups, allBits]
  | n + 1, l, hb, hl => by
    have e : k * (n + 1) = k + k * n := by rw [Nat.mul_succ]; omega
    rw [groups, allBits_cons, allBits_groups k n _ (hb.drop k) (by rw [List.length_drop]; omega)]
    have h1 : (l.take k).length = k := by rw [List.length_take]; omega
    have h2 := bits_val (hb.take k)
    rw [h1] at h2
    rw [h2, e, List.take_add]
theorem groups_lt (k : Nat) : ∀ (n : Nat) (l : List Nat), Bit l → k * n ≤ l.length → ∀ x ∈ groups k n l, x < 2 ^ k
  | 0, _, _, _, x, h => by cases h
  | n + 1, l, hb, hl, x, h => by
    have e : k * (n + 1) = k + k * n := by rw [Nat.mul_succ]; omega
    rw [groups, List.mem_cons] at h
    rcases h with rfl | h
    · have h1 : (l.take k).length = k := by rw [List.length_take]; omega
      have := val_lt (hb.take k)
      rw [h1] at this; exact this
    · exact groups_lt k n _ (hb.drop k) (by rw [List.length_drop]; omega) x h
/-- Zeros. -/
theorem val_zeros (n : Nat) : val (List.replicate n 0) = 0 := by
  induction n with
  | zero => rfl
  | succ n ih => rw [List.replicate_succ, val_cons, ih]; omega
theorem zeros_bit (n : Nat) : Bit (List.replicate n 0) := fun x hx => by rw [(List.mem_replicate.1 hx).2]; omega
/-- The text of bytes, as the values of its signs. -/
def encN (n : Nat) : Nat := (8 * n + 5) / 6
def enc6 (bs : List Nat) : List Nat := groups 6 (encN bs.length) (allBits 8 bs ++ List.replicate (6 * encN bs.length - 8 * bs.length) 0)
def decN (n : Nat) : Nat := 6 * n / 8
def dec8 (l : List Nat) : List Nat := groups 8 (decN l.length) (allBits 6 l)
/-- What is left over behind the whole bytes is too short for a sign, and zero. -/
def Tight (l : List Nat) : Prop := 6 * l.length - 8 * decN l.length < 6 ∧ (allBits 6 l).drop (8 * decN l.length) = List.replicate (6 * l.length - 8 * decN l.length) 0
theorem enc6_len (bs : List Nat) : (enc6 bs).length = encN bs.length := groups_len _ _ _
theorem dec8_len (l : List Nat) : (dec8 l).length = decN l.length := groups_len _ _ _
theorem enc6_lt (bs : List Nat) : ∀ x ∈ enc6 bs, x < 64 := groups_lt 6 _ _ ((allBits_bit 8 bs).app (zeros_bit _)) (by rw [List.length_append, allBits_len, List.length_replicate]; unfold encN; omega)
theorem dec8_lt (l : List Nat) : ∀ x ∈ dec8 l, x < 256 := groups_lt 8 _ _ (allBits_bit 6 l) (by rw [allBits_len]; unfold decN; omega)
theorem enc6_bits (bs : List Nat) : allBits 6 (enc6 bs) = allBits 8 bs ++ List.replicate (6 * encN bs.length - 8 * bs.length) 0 := by
  unfold enc6
  have hl : (allBits 8 bs ++ List.replicate (6 * encN bs.length - 8 * bs.length) 0).length = 6 * encN bs.length := by
    rw [List.length_append, allBits_len, List.length_replicate]; unfold encN; omega
  rw [allBits_groups 6 _ _ ((allBits_bit 8 bs).app (zeros_bit _)) (by rw [hl]; exact Nat.le_refl _), List.take_of_length_le (by rw [hl]; exact Nat.le_refl _)]
theorem dec8_bits (l : List Nat) : allBits 8 (dec8 l) = (allBits 6 l).take (8 * decN l.length) :=
  allBits_groups 8 _ _ (allBits_bit 6 l) (by rw [allBits_len]; unfold decN; omega)
theorem decN_encN (n : Nat) : decN (encN n) = n := by unfold decN encN; omega
theorem dec_enc {bs : List Nat} (h : ∀ x ∈ bs, x < 256) : dec8 (enc6 bs) = bs := by
  unfold dec8
  rw [enc6_len, decN_encN, enc6_bits]
  exact groups_allBits 8 bs _ h
theorem tight_enc (bs : List Nat) : Tight (enc6 bs) := by
  unfold Tight
  rw [enc6_len, decN_encN, enc6_bits]
  refine ⟨by unfold encN; omega, ?_⟩
  have := List.drop_left (l₁ := allBits 8 bs) (l₂ := List.replicate (6 * encN bs.length - 8 * bs.length) 0)
  rw [allBits_len] at this
  exact this
theorem enc_dec {l : List Nat} (h : ∀ x ∈ l, x < 64) : enc6 (dec8 l) = l ↔ Tight l := by
  constructor
  · intro he
    rw [← he]; exact tight_enc _
  · rintro ⟨h1, h2⟩
    have hn : encN (decN l.length) = l.length := by unfold encN decN at *; omega
    unfold enc6
    rw [dec8_len, dec8_bits, hn, ← h2, List.take_append_drop]
    have := groups_allBits 6 l [] h
    rw [List.append_nil] at this
    exact this
end PB
namespace Go.Proofs.YtipapffpfggmnaaDoor
open Go.RowKit Go.Proofs.YtipapffpfggmnaaDoorW.PrintWords Go.Proofs.YtipapffpfggmnaaDoorW.PrintLast Go.Proofs.YtipapffpfggmnaaDoorW.PrintMore Go.Proofs.YtipapffpfggmnaaDoor.PRef
set_option linter.unusedVariables false
def ints (vs : List Nat) : List Int := vs.map fun x : Nat => (x : Int)
theorem ints_len (vs : List Nat) : (ints vs).length = vs.length := List.length_map _
/-- What is left over of the bits of the first k values behind m groups. -/
def left (f t : Nat) (vs : List Nat) (k m : Nat) : List Nat := (PB.allBits f (vs.take k)).drop (t * m)
theorem left_len (f t : Nat) (vs : List Nat) (k m : Nat) (hk : k ≤ vs.length) : (left f t vs k m).length = f * k - t * m := by
  unfold left
  rw [List.length_drop, PB.allBits_len, List.length_take, Nat.min_eq_left hk]
theorem left_bit (f t : Nat) (vs : List Nat) (k m : Nat) : PB.Bit (left f t vs k m) := (PB.allBits_bit f _).drop _
theorem left_lt (f t : Nat) (vs : List Nat) (k m : Nat) (hk : k ≤ vs.length) : PB.val (left f t vs k m) < 2 ^ (f * k - t * m) := by
  have := PB.val_lt (left_bit f t vs k m)
  rwa [left_len f t vs k m hk] at this
structure RegInv (f t : Nat) (vs : List Nat) (I : List Nat → World → Prop) (k m : Nat) (a n : Value) (wr : World) : Prop where
  ha : a = .int .i64 ((PB.val (left f t vs k m) : Nat) : Int)
  hn : n = .int .i64 ((f * k - t * m : Nat) : Int)
  hle : t * m ≤ f * k
  inv : I (PB.groups t m (PB.allBits f (vs.take k))) wr
theorem take_bits (f : Nat) (vs : List Nat) (k : Nat) (h : k < vs.length) : PB.allBits f (vs.take (k + 1)) = PB.allBits f (vs.take k) ++ PB.bits f vs[k] := by
  rw [List.take_succ_eq_append_getElem h, PB.allBits_app]
  congr 1
  rw [PB.allBits_cons]
  exact List.append_nil _
theorem groups_prefix (t : Nat) : ∀ (m : Nat) (a b : List Nat), t * m ≤ a.length → PB.groups t m (a ++ b) = PB.groups t m a
  | 0, _, _, _ => rfl
  | m + 1, a, b, h => by
    rw [Nat.mul_succ] at h
    rw [PB.groups, PB.groups, List.take_append_of_le_length (by omega), List.drop_append_of_le_length (by omega), groups_prefix t m _ _ (by rw [List.length_drop]; omega)]
theorem reg_groups (f t : Nat) (vs : List Nat) (k m : Nat) (h : k < vs.length) (hle : t * m ≤ f * k) : PB.groups t m (PB.allBits f (vs.take (k + 1))) = PB.groups t m (PB.allBits f (vs.take k)) := by
  rw [take_bits f vs k h]
  exact groups_prefix t m _ _ (by rw [PB.allBits_len, List.length_take, Nat.min_eq_left (by omega)]; exact hle)
theorem reg_left (f t : Nat) (vs : List Nat) (k m : Nat) (h : k < vs.length) (hle : t * m ≤ f * k) : left f t vs (k + 1) m = left f t vs k m ++ PB.bits f vs[k] := by
  unfold left
  rw [take_bits f vs k h, List.drop_append_of_le_length (by rw [PB.allBits_len, List.length_take, Nat.min_eq_left (by omega)]; exact hle)]
/-- One value more. -/
theorem reg_push (f t : Nat) (vs : List Nat) (k m : Nat) (h : k < vs.length) (hv : ∀ x ∈ vs, x < 2 ^ f) (hle : t * m ≤ f * k) : PB.val (left f t vs (k + 1) m) = PB.val (left f t vs k m) * 2 ^ f + vs[k] := by
  rw [reg_left f t vs k m h hle, PB.val_app, PB.bits_len, PB.val_bits _ _ (hv _ (List.getElem_mem h))]
/-- One group less. -/
theorem left_split (f t : Nat) (vs : List Nat) (k m : Nat) : left f t vs k m = (left f t vs k m).take t ++ left f t vs k (m + 1) := by
  unfold left
  rw [show t * (m + 1) = t * m + t from Nat.mul_succ _ _, ← List.drop_drop, List.take_append_drop]
theorem reg_shr (f t : Nat) (vs : List Nat) (k m : Nat) (hk : k ≤ vs.length) : PB.val (left f t vs k m) / 2 ^ (f * k - t * (m + 1)) = PB.val ((left f t vs k m).take t) := by
  have h1 := PB.val_div ((left f t vs k m).take t) (left f t vs k (m + 1)) (left_bit _ _ _ _ _)
  rw [← left_split, left_len f t vs k (m + 1) hk] at h1
  exact h1
theorem reg_mod (f t : Nat) (vs : List Nat) (k m : Nat) (hk : k ≤ vs.length) : PB.val (left f t vs k m) % 2 ^ (f * k - t * (m + 1)) = PB.val (left f t vs k (m + 1)) := by
  have h1 := PB.val_mod ((left f t vs k m).take t) (left f t vs k (m + 1)) (left_bit _ _ _ _ _)
  rw [← left_split, left_len f t vs k (m + 1) hk] at h1
  exact h1
theorem reg_take_lt (f t : Nat) (vs : List Nat) (k m : Nat) (hk : k ≤ vs.length) (h : t * (m + 1) ≤ f * k) : PB.val ((left f t vs k m).take t) < 2 ^ t := by
  have h1 := PB.val_lt ((left_bit f t vs k m).take t)
  rwa [List.length_take, left_len f t vs k m hk, Nat.min_eq_left (by rw [Nat.mul_succ] at h; omega)] at h1
theorem reg_snoc (f t : Nat) (vs : List Nat) (k m : Nat) : PB.groups t (m + 1) (PB.allBits f (vs.take k)) = PB.groups t m (PB.allBits f (vs.take k)) ++ [PB.val ((left f t vs k m).take t)] := PB.groups_snoc t m _
theorem rd_map (vs : List Nat) (k : Nat) (h : k < vs.length) : rd (ints vs) (k : Int) = ((vs[k] : Nat) : Int) := by
  unfold rd ints
  rw [Int.toNat_natCast, List.getD_eq_getElem?_getD, List.getElem?_map, List.getElem?_eq_getElem h]; rfl
theorem at_cast {w : World} {A : Option Addr} {vs : List Nat} (h : Kd.C (Kd.int .i64) w A vs.length (ints vs)) (k : Nat) (hk : k < vs.length) : ∃ ad, A = some ad ∧ w.cell? (ad.add k) = some (.int .i64 ((vs[k] : Nat) : Int)) := by
  have h' : Kd.C (Kd.int .i64) w A (ints vs).length (ints vs) := by rw [ints_len]; exact h
  obtain ⟨ad, rfl, q0⟩ := Kd.at_int h' (k : Int) (by omega) (by rw [ints_len]; omega)
  rw [Int.toNat_natCast, rd_map vs k hk] at q0
  exact ⟨ad, rfl, q0⟩
theorem w64w (n : Int) (h : 0 ≤ n) (h2 : n < 2 ^ 40) : IntKind.i64.wrap n = n := by rw [IntKind.wrap_i64]; omega
theorem or_push8 (V x W : Nat) (hV : V < 2 ^ 8) (hx : x < 2 ^ 8) (hW : W = V * 2 ^ 8 + x) : bits .or .i64 ((V : Int) * 256) (x : Int) = (W : Int) := by
  have h0 : (0 : Int) ≤ (V : Int) * 256 := by omega
  have h1 : (V : Int) * 256 < 2 ^ 40 := by omega
  rw [bits_join .i64 40 (by decide) w64w 8 _ _ h0 (by omega) h1 (by omega) (by omega) (by omega)]
  omega
theorem or_push6 (V x W : Nat) (hV : V < 2 ^ 8) (hx : x < 2 ^ 6) (hW : W = V * 2 ^ 6 + x) : bits .or .i64 ((V : Int) * 64) (x : Int) = (W : Int) := by
  have h0 : (0 : Int) ≤ (V : Int) * 64 := by omega
  have h1 : (V : Int) * 64 < 2 ^ 40 := by omega
  rw [bits_join .i64 40 (by decide) w64w 6 _ _ h0 (by omega) h1 (by omega) (by omega) (by omega)]
  omega
theorem reg_shrI (f t : Nat) (vs : List Nat) (k m e : Nat) (hk : k ≤ vs.length) (he : e = f * k - t * (m + 1)) : ((PB.val (left f t vs k m) : Nat) : Int) / 2 ^ e = ((PB.val ((left f t vs k m).take t) : Nat) : Int) := by
  rw [← reg_shr f t vs k m hk, he, Int.natCast_ediv]; simp
theorem last_lt (t r V : Nat) (hV : V < 2 ^ r) (h : r ≤ t) : V * 2 ^ (t - r) < 2 ^ t := by
  have h1 : 2 ^ t = 2 ^ r * 2 ^ (t - r) := by rw [← Nat.pow_add]; congr 1; omega
  rw [h1]
  exact Nat.mul_lt_mul_of_pos_right hV (Nat.two_pow_pos _)
theorem last_w (t r V : Nat) (hV : V < 2 ^ r) (h : r ≤ t) (ht : t ≤ 8) : wrap64 ((V : Int) * 2 ^ (t - r)) = ((V * 2 ^ (t - r) : Nat) : Int) := by
  have h1 := last_lt t r V hV h
  have h2 : 2 ^ t ≤ 2 ^ 8 := Nat.pow_le_pow_right (by decide) ht
  have e : ((V * 2 ^ (t - r) : Nat) : Int) = (V : Int) * 2 ^ (t - r) := by simp
  rw [← e]
  generalize V * 2 ^ (t - r) = x at *
  unfold wrap64; omega
theorem reg_end0 (vs : List Nat) (m : Nat) (h1 : 6 * m ≤ 8 * vs.length) (h2 : 8 * vs.length - 6 * m = 0) : PB.groups 6 m (PB.allBits 8 (vs.take vs.length)) = PB.enc6 vs := by
  have e : PB.encN vs.length = m := by unfold PB.encN; omega
  unfold PB.enc6
  rw [e, List.take_length, show 6 * m - 8 * vs.length = 0 from by omega, List.replicate_zero, List.append_nil]
theorem reg_end1 (vs : List Nat) (m : Nat) (h1 : 6 * m ≤ 8 * vs.length) (h2 : 8 * vs.length - 6 * m < 6) (h3 : ¬ 8 * vs.length - 6 * m = 0) :
    PB.groups 6 m (PB.allBits 8 (vs.take vs.length)) ++ [PB.val (left 8 6 vs vs.length m) * 2 ^ (6 - (8 * vs.length - 6 * m))] = PB.enc6 vs := by
  have e : PB.encN vs.length = m + 1 := by unfold PB.encN; omega
  have hl : (PB.allBits 8 vs).length = 8 * vs.length := PB.allBits_len _ _
  have e2 : 6 * (m + 1) - 8 * vs.length = 6 - (8 * vs.length - 6 * m) := by omega
  unfold PB.enc6 left
  rw [e, List.take_length, PB.groups_snoc, groups_prefix 6 m _ _ (by rw [hl]; exact h1), e2, List.drop_append_of_le_length (by rw [hl]; exact h1), List.take_of_length_le (by rw [List.length_append, List.length_drop, List.length_replicate, hl]; omega), PB.val_app, PB.val_zeros, List.length_replicate, Nat.add_zero]
theorem reg_endD (vs : List Nat) (m : Nat) (h1 : 8 * m ≤ 6 * vs.length) (h2 : 6 * vs.length - 8 * m < 8) : PB.groups 8 m (PB.allBits 6 (vs.take vs.length)) = PB.dec8 vs := by
  have e : PB.decN vs.length = m := by unfold PB.decN; omega
  unfold PB.dec8
  rw [e, List.take_length]
theorem and_mask (V e : Nat) (hV : V < 2 ^ 40) (he : e ≤ 14) : bits .and .i64 (V : Int) (wrap64 (wrap64 (2 ^ e) - 1)) = ((V % 2 ^ e : Nat) : Int) := by
  have h1 : 2 ^ e ≤ 2 ^ 14 := Nat.pow_le_pow_right (by decide) he
  have h0 := Nat.two_pow_pos e
  have hc : ((2 : Int) ^ e) = ((2 ^ e : Nat) : Int) := by simp
  have h2 : wrap64 (wrap64 (2 ^ e) - 1) = 2 ^ e - 1 := by
    rw [hc]
    generalize 2 ^ e = q at *
    unfold wrap64; omega
  rw [h2, bits_mask .i64 40 (by decide) w64w e (by omega) (V : Int) (by omega) (by omega)]
  simp
theorem reg_and (f t : Nat) (vs : List Nat) (k m e : Nat) (hk : k ≤ vs.length) (he : e = f * k - t * (m + 1)) (h : f * k - t * m ≤ 14) : bits .and .i64 ((PB.val (left f t vs k m) : Nat) : Int) (wrap64 (wrap64 (2 ^ e) - 1)) = ((PB.val (left f t vs k (m + 1)) : Nat) : Int) := by
  have h1 := left_lt f t vs k m hk
  have h2 : 2 ^ (f * k - t * m) ≤ 2 ^ 40 := Nat.pow_le_pow_right (by decide) (by omega)
  rw [and_mask _ e (by omega) (by rw [he, Nat.mul_succ]; omega), he, reg_mod f t vs k m hk]
theorem nat_or (a f x : Nat) (h : x < 2 ^ f) : (a * 2 ^ f) ||| x = a * 2 ^ f + x := by
  rw [Nat.mul_comm, Nat.two_pow_add_eq_or_of_lt h]
theorem nat_and (a n : Nat) : a &&& (2 ^ n - 1) = a % 2 ^ n := Nat.and_two_pow_sub_one_eq_mod a n
end Go.Proofs.YtipapffpfggmnaaDoor
namespace Go.Proofs.YtipapffpfggmnaaDoor
open Go.RowKit Go.Proofs.YtipapffpfggmnaaDoorW.PrintWords Go.Proofs.YtipapffpfggmnaaDoorW.PrintLast Go.Proofs.YtipapffpfggmnaaDoorW.PrintMore Go.Proofs.YtipapffpfggmnaaDoor.PRef
set_option linter.unusedVariables false
set_option maxHeartbeats 8000000 in
set_option maxRecDepth 100000 in
theorem regE_any (p : Addr) (I : List Nat → World → Prop) (A : Option Addr) (c : Nat) (vs : List Nat) (w : World) (hv : ∀ x ∈ vs, x < 2 ^ 8) (hl : vs.length ≤ 100000000) (h0 : I [] w) (hI : ∀ es wr, I es wr → Kd.C (Kd.int .i64) wr A vs.length (ints vs))
    (h1 : ∀ (es : List Nat) (v : Nat) (wr : World), I es wr → es.length < 400000000 → v < 2 ^ 6 → Calls Tryd.prog 49 #[.int .i64 (v : Int), .bool true, .pointer (some p)] wr fun e w' => e = .returned (.tuple #[]) ∧ I (es ++ [v]) w')
    (h2 : ∀ (es : List Nat) (v : Nat) (wr : World), I es wr → es.length < 400000000 → v < 2 ^ 6 → Calls Tryd.prog 49 #[.int .i64 (v : Int), .bool false, .pointer (some p)] wr fun e w' => e = .returned (.tuple #[]) ∧ I (es ++ [v]) w') :
    Calls Tryd.prog 48 #[.slice A vs.length c, .int .i64 8, .int .i64 6, .func (.func 49) #[] #[.pointer (some p)]] w fun e w' => e = .returned (.tuple #[]) ∧ I (PB.enc6 vs) w' := by
  have HV := Lib.hid hv
  have HI := Lib.hid hI
  have H1 := Lib.hid h1
  have H2 := Lib.hid h2
  have H0 := Lib.hid h0
  clear hv hI h1 h2 h0
  go_enter Tryd.func48, Tryd.ntmps48
  go_wp2_with fail
  go_loopw [8, 9, 14] (fun a n i wr => ∃ k m : Nat, k ≤ vs.length ∧ i = .int .i64 (k : Int) ∧ 8 * k - 6 * m < 6 ∧ RegInv 8 6 vs I k m a n wr) (fun _ _ i _ => vs.length - (intOf i).toNat)
  case atStart => exact ⟨0, 0, by omega, rfl, by omega, rfl, rfl, by omega, H0.out⟩
  case round =>
    obtain ⟨k, m, hk, rfl, hm, hR⟩ := hrel
    have HR := Lib.hid hR
    obtain ⟨ra, rn, hle, -⟩ := hR
    have hlm := Kd.C_max (HI.out _ _ HR.out.inv)
    by_cases hlt : k < vs.length
    · obtain ⟨ad, rfl, q0⟩ := at_cast (HI.out _ _ HR.out.inv) k hlt
      have hx := Lib.hid (reg_push 8 6 vs k m hlt HV.out hle)
      have hv1 := HV.out _ (List.getElem_mem hlt)
      have hb := left_lt 8 6 vs k m hk
      generalize vs[k] = x at *
      subst ra rn
      have hV8 : PB.val (left 8 6 vs k m) < 2 ^ 8 := Nat.lt_of_lt_of_le hb (Nat.pow_le_pow_right (by decide) (by omega))
      have hor := Lib.hid (or_push8 _ x _ hV8 hv1 hx.out)
      have hG := Lib.hid (reg_groups 8 6 vs k m hlt hle)
      have hkm : 8 * (k + 1) - 6 * m < 6 + 8 := by omega
      clear hx
      go_wp2_with fail
      go_loopw [8, 9] (fun a n wq => ∃ m' : Nat, 8 * (k + 1) - 6 * m' < 6 + 8 ∧ RegInv 8 6 vs I (k + 1) m' a n wq) (fun _ n _ => (intOf n).toNat)
      case atStart => exact ⟨m, hkm, by rw [hor.out], by congr 1; omega, by omega, by rw [hG.out]; exact HR.out.inv⟩
      case round =>
        clear HR hV8 hor hG hkm hb hm hle
        obtain ⟨m', hm', hR⟩ := hrel
        have HR := Lib.hid hR
        obtain ⟨ra, rn, hle, -⟩ := hR
        subst ra rn
        by_cases hge : 6 * (m' + 1) ≤ 8 * (k + 1)
        · have c1 : (((8 * (k + 1) - 6 * m' : Nat) : Int) ≥ 6) := by omega
          go_wp2_with fail
          rw [reg_shrI 8 6 vs (k + 1) m' _ hlt (by omega)]
          refine (H1.out _ _ wr HR.out.inv (by rw [PB.groups_len]; omega) (reg_take_lt _ _ _ _ _ hlt hge)).mono ?_
          rintro e2 w2 ⟨rfl, hi2⟩
          rw [← reg_snoc] at hi2
          have HN := Lib.hid hi2
          clear hi2
          go_wp2_with fail
          go_roundw
          case rel =>
            refine ⟨m' + 1, by omega, ?_, by congr 1; omega, hge, HN.out⟩
            rw [reg_and 8 6 vs (k + 1) m' _ hlt (by omega) (by omega)]
          case measure => simp [intOf]; omega
        · have c1 : ¬ (((8 * (k + 1) - 6 * m' : Nat) : Int) ≥ 6) := by omega
          go_wp2_with fail
          go_roundw
          case rel => exact ⟨k + 1, m', by omega, by go_num, by omega, HR.out⟩
          case measure => simp [intOf]; omega
    · have hkl : k = vs.length := by omega
      have hge : ¬ ((k : Int) < vs.length) := by omega
      subst ra rn
      subst hkl
      by_cases hz : 8 * vs.length - 6 * m = 0
      · have c1 : ¬ (((8 * vs.length - 6 * m : Nat) : Int) > 0) := by omega
        go_wp2_with fail
        go_end0
        exact ⟨rfl, by rw [← reg_end0 vs m hle hz]; exact HR.out.inv⟩
      · have c1 : (((8 * vs.length - 6 * m : Nat) : Int) > 0) := by omega
        have hlw := left_lt 8 6 vs vs.length m (Nat.le_refl _)
        go_wp2_with fail
        rw [last_w 6 _ _ hlw (by omega) (by decide)]
        refine (H2.out _ _ wr HR.out.inv (by rw [PB.groups_len]; omega) (last_lt _ _ _ hlw (by omega))).mono ?_
        rintro e2 w2 ⟨rfl, hi2⟩
        rw [reg_end1 vs m hle hm hz] at hi2
        have HN := Lib.hid hi2
        clear hi2
        go_wp2_with fail
        go_end0
        exact ⟨rfl, HN.out⟩
end Go.Proofs.YtipapffpfggmnaaDoor
namespace Go.Proofs.YtipapffpfggmnaaDoor
open Go.RowKit Go.Proofs.YtipapffpfggmnaaDoorW.PrintWords Go.Proofs.YtipapffpfggmnaaDoorW.PrintLast Go.Proofs.YtipapffpfggmnaaDoorW.PrintMore Go.Proofs.YtipapffpfggmnaaDoor.PRef
set_option linter.unusedVariables false
set_option maxHeartbeats 8000000 in
set_option maxRecDepth 100000 in
theorem regD_any (p : Addr) (I : List Nat → World → Prop) (A : Option Addr) (c : Nat) (vs : List Nat) (w : World) (hv : ∀ x ∈ vs, x < 2 ^ 6) (hl : vs.length ≤ 100000000) (h0 : I [] w) (hI : ∀ es wr, I es wr → Kd.C (Kd.int .i64) wr A vs.length (ints vs))
    (h1 : ∀ (es : List Nat) (v : Nat) (wr : World), I es wr → es.length < 400000000 → v < 2 ^ 8 → Calls Tryd.prog 55 #[.int .i64 (v : Int), .bool true, .pointer (some p)] wr fun e w' => e = .returned (.tuple #[]) ∧ I (es ++ [v]) w')
    (h2 : ∀ (es : List Nat) (v : Nat) (wr : World), I es wr → es.length < 400000000 → v < 2 ^ 8 → Calls Tryd.prog 55 #[.int .i64 (v : Int), .bool false, .pointer (some p)] wr fun e w' => e = .returned (.tuple #[]) ∧ I (es) w') :
    Calls Tryd.prog 48 #[.slice A vs.length c, .int .i64 6, .int .i64 8, .func (.func 55) #[] #[.pointer (some p)]] w fun e w' => e = .returned (.tuple #[]) ∧ I (PB.dec8 vs) w' := by
  have HV := Lib.hid hv
  have HI := Lib.hid hI
  have H1 := Lib.hid h1
  have H2 := Lib.hid h2
  have H0 := Lib.hid h0
  clear hv hI h1 h2 h0
  go_enter Tryd.func48, Tryd.ntmps48
  go_wp2_with fail
  go_loopw [8, 9, 14] (fun a n i wr => ∃ k m : Nat, k ≤ vs.length ∧ i = .int .i64 (k : Int) ∧ 6 * k - 8 * m < 8 ∧ RegInv 6 8 vs I k m a n wr) (fun _ _ i _ => vs.length - (intOf i).toNat)
  case atStart => exact ⟨0, 0, by omega, rfl, by omega, rfl, rfl, by omega, H0.out⟩
  case round =>
    obtain ⟨k, m, hk, rfl, hm, hR⟩ := hrel
    have HR := Lib.hid hR
    obtain ⟨ra, rn, hle, -⟩ := hR
    have hlm := Kd.C_max (HI.out _ _ HR.out.inv)
    by_cases hlt : k < vs.length
    · obtain ⟨ad, rfl, q0⟩ := at_cast (HI.out _ _ HR.out.inv) k hlt
      have hx := Lib.hid (reg_push 6 8 vs k m hlt HV.out hle)
      have hv1 := HV.out _ (List.getElem_mem hlt)
      have hb := left_lt 6 8 vs k m hk
      generalize vs[k] = x at *
      subst ra rn
      have hV8 : PB.val (left 6 8 vs k m) < 2 ^ 8 := Nat.lt_of_lt_of_le hb (Nat.pow_le_pow_right (by decide) (by omega))
      have hor := Lib.hid (or_push6 _ x _ hV8 hv1 hx.out)
      have hG := Lib.hid (reg_groups 6 8 vs k m hlt hle)
      have hkm : 6 * (k + 1) - 8 * m < 8 + 6 := by omega
      clear hx
      go_wp2_with fail
      go_loopw [8, 9] (fun a n wq => ∃ m' : Nat, 6 * (k + 1) - 8 * m' < 8 + 6 ∧ RegInv 6 8 vs I (k + 1) m' a n wq) (fun _ n _ => (intOf n).toNat)
      case atStart => exact ⟨m, hkm, by rw [hor.out], by congr 1; omega, by omega, by rw [hG.out]; exact HR.out.inv⟩
      case round =>
        clear HR hV8 hor hG hkm hb hm hle
        obtain ⟨m', hm', hR⟩ := hrel
        have HR := Lib.hid hR
        obtain ⟨ra, rn, hle, -⟩ := hR
        subst ra rn
        by_cases hge : 8 * (m' + 1) ≤ 6 * (k + 1)
        · have c1 : (((6 * (k + 1) - 8 * m' : Nat) : Int) ≥ 8) := by omega
          go_wp2_with fail
          rw [reg_shrI 6 8 vs (k + 1) m' _ hlt (by omega)]
          refine (H1.out _ _ wr HR.out.inv (by rw [PB.groups_len]; omega) (reg_take_lt _ _ _ _ _ hlt hge)).mono ?_
          rintro e2 w2 ⟨rfl, hi2⟩
          rw [← reg_snoc] at hi2
          have HN := Lib.hid hi2
          clear hi2
          go_wp2_with fail
          go_roundw
          case rel =>
            refine ⟨m' + 1, by omega, ?_, by congr 1; omega, hge, HN.out⟩
            rw [reg_and 6 8 vs (k + 1) m' _ hlt (by omega) (by omega)]
          case measure => simp [intOf]; omega
        · have c1 : ¬ (((6 * (k + 1) - 8 * m' : Nat) : Int) ≥ 8) := by omega
          go_wp2_with fail
          go_roundw
          case rel => exact ⟨k + 1, m', by omega, by go_num, by omega, HR.out⟩
          case measure => simp [intOf]; omega
    · have hkl : k = vs.length := by omega
      have hge : ¬ ((k : Int) < vs.length) := by omega
      subst ra rn
      subst hkl
      by_cases hz : 6 * vs.length - 8 * m = 0
      · have c1 : ¬ (((6 * vs.length - 8 * m : Nat) : Int) > 0) := by omega
        go_wp2_with fail
        go_end0
        exact ⟨rfl, by rw [← reg_endD vs m hle hm]; exact HR.out.inv⟩
      · have c1 : (((6 * vs.length - 8 * m : Nat) : Int) > 0) := by omega
        have hlw := left_lt 6 8 vs vs.length m (Nat.le_refl _)
        go_wp2_with fail
        rw [last_w 8 _ _ hlw (by omega) (by decide)]
        refine (H2.out _ _ wr HR.out.inv (by rw [PB.groups_len]; omega) (last_lt _ _ _ hlw (by omega))).mono ?_
        rintro e2 w2 ⟨rfl, hi2⟩
        rw [reg_endD vs m hle hm] at hi2
        have HN := Lib.hid hi2
        clear hi2
        go_wp2_with fail
        go_end0
        exact ⟨rfl, HN.out⟩
end Go.Proofs.YtipapffpfggmnaaDoor
namespace Go.Proofs.YtipapffpfggmnaaDoor
open Go.RowKit Go.Proofs.YtipapffpfggmnaaDoorW.PrintWords Go.Proofs.YtipapffpfggmnaaDoorW.PrintLast Go.Proofs.YtipapffpfggmnaaDoorW.PrintMore Go.Proofs.YtipapffpfggmnaaDoor.PRef
set_option linter.unusedVariables false
def abc : List UInt8 := [65, 66, 67, 68, 69, 70, 71, 72, 73, 74, 75, 76, 77, 78, 79, 80, 81, 82, 83, 84, 85, 86, 87, 88, 89, 90, 97, 98, 99, 100, 101, 102, 103, 104, 105, 106, 107, 108, 109, 110, 111, 112, 113, 114, 115, 116, 117, 118, 119, 120, 121, 122, 48, 49, 50, 51, 52, 53, 54, 55, 56, 57, 45, 95]
def sgn (v : Nat) : UInt8 := abc.getD v 0
theorem abc_len : abc.length = 64 := rfl
theorem sgn_at (v : Nat) (h : v < 64) : abc[v]'(by rw [abc_len]; exact h) = sgn v := by
  unfold sgn
  rw [List.getD_eq_getElem?_getD, List.getElem?_eq_getElem (by rw [abc_len]; exact h)]; rfl
theorem snoc_cells (es : List Nat) (v : Nat) : Lib.byteCells ((es ++ [v]).map sgn) = Lib.byteCells (es.map sgn) ++ [.int .u8 ((sgn v).toNat : Int)] := by
  unfold Lib.byteCells
  rw [List.map_append, List.map_append]; rfl
structure EncI (B b : Nat) (W : World) (es : List Nat) (w : World) : Prop where
  bld : Lib.IsBuilder 86 5 B b (Lib.byteCells (es.map sgn)) w
  bel : Below B W w
set_option maxHeartbeats 8000000 in
set_option maxRecDepth 100000 in
theorem Enc1_any (B b : Nat) (W : World) (hB : B ≤ W.heap.size) (q : Bool) (es : List Nat) (v : Nat) (w : World) (h : EncI B b W es w) (hl : es.length < 400000000) (hv : v < 2 ^ 6) :
    Calls Tryd.prog 49 #[.int .i64 (v : Int), .bool q, .pointer (some ⟨b, 0, none⟩)] w fun e w' => e = .returned (.tuple #[]) ∧ EncI B b W (es ++ [v]) w' := by
  have H := Lib.hid h
  clear h
  go_enter Tryd.func49, Tryd.ntmps49
  go_wp2_with fail
  refine ((congrArg (fun c : UInt8 => Calls Tryd.prog 50 #[.pointer (some ⟨b, 0, none⟩), .int .u8 (c.toNat : Int)] w fun e w' => e = .returned .nilIface ∧ (Lib.BuilderAt 86 5 B b (.pointer (some ⟨b, 0, none⟩)) (Lib.byteCells (es.map sgn) ++ [.int .u8 ((sgn v).toNat : Int)]) w' ∧ Below B w w')) (sgn_at v hv)).mpr (WB_any B b _ _ w H.out.bld (by rw [Lib.byteCells_length, List.length_map]; omega) (by have := H.out.bel.size; omega))).mono ?_
  rintro e1 w1 ⟨rfl, h1, h2⟩
  rw [← snoc_cells] at h1
  have HN := Lib.hid (EncI.mk (.inr h1) (H.out.bel.trans h2) : EncI B b W (es ++ [v]) w1)
  clear h1 h2
  go_wp2_with fail
  go_end0
  exact ⟨rfl, HN.out⟩
end Go.Proofs.YtipapffpfggmnaaDoor
namespace Go.Proofs.YtipapffpfggmnaaDoor
open Go.RowKit Go.Proofs.YtipapffpfggmnaaDoorW.PrintWords Go.Proofs.YtipapffpfggmnaaDoorW.PrintLast Go.Proofs.YtipapffpfggmnaaDoorW.PrintMore Go.Proofs.YtipapffpfggmnaaDoor.PRef
set_option linter.unusedVariables false
def encF (bn : List Nat) : ByteArray := ⟨((PB.enc6 bn).map sgn).toArray⟩
theorem infoInt : (Tryd.prog.info? 3).map (fun i => (i.zero, i.size, i.bytes)) = some (some (.int .i64 0), 1, 8) := by kernel_rfl
theorem made_ints (n : Nat) : madeCells (Value.int .i64 0).cells n = (nums .i64 (List.replicate n 0)).toArray := by
  have e : (Value.int .i64 0).cells = #[Value.int .i64 0] := rfl
  rw [e]
  unfold nums madeCells
  apply Array.ext
  · simp
  · intro i h1 h2
    simp [Nat.mod_one]
theorem mk_ints (n : Nat) (hn : n ≤ 1000000000) (w : World) : (Instr.makeSlice 83 (.int .i64 (n : Int)) (.int .i64 (n : Int))).run Tryd.prog w = .ok (.slice (some ⟨w.heap.size, 0, none⟩) n n) (w.alloc (.cells (nums .i64 (List.replicate n 0)).toArray 3)) := by
  obtain ⟨i0, hi, hz0, hz1, hz2⟩ := info_parts infoInt
  have hr := run_make (P := Tryd.prog) w 83 3 i0 _ Tryd.underlying83 hi hz0 .i64 .i64 (n : Int) (n : Int) (by omega) (Int.le_refl _) (by rw [hz2]; omega) (by omega)
  simp only [Int.toNat_natCast, hz1, Nat.mul_one] at hr
  rw [hr, made_ints]
theorem at_castK {t : IntKind} {w : World} {A : Option Addr} {vs : List Nat} (h : Kd.C (Kd.int t) w A vs.length (ints vs)) (k : Nat) (hk : k < vs.length) : ∃ ad, A = some ad ∧ w.cell? (ad.add k) = some (.int t ((vs[k] : Nat) : Int)) := by
  have h' : Kd.C (Kd.int t) w A (ints vs).length (ints vs) := by rw [ints_len]; exact h
  obtain ⟨ad, rfl, q0⟩ := Kd.at_int h' (k : Int) (by omega) (by rw [ints_len]; omega)
  rw [Int.toNat_natCast, rd_map vs k hk] at q0
  exact ⟨ad, rfl, q0⟩
def fillTo (bn : List Nat) (k : Nat) : List Int := ints (bn.take k) ++ List.replicate (bn.length - k) 0
theorem fillTo_len (bn : List Nat) (k : Nat) (h : k ≤ bn.length) : (fillTo bn k).length = bn.length := by
  unfold fillTo
  rw [List.length_append, ints_len, List.length_take, List.length_replicate]; omega
theorem fillTo_set (bn : List Nat) (k : Nat) (h : k < bn.length) : (fillTo bn k).set k ((bn[k] : Nat) : Int) = fillTo bn (k + 1) := by
  unfold fillTo
  have e : bn.length - k = (bn.length - (k + 1)) + 1 := by omega
  have hl : (ints (bn.take k)).length = k := by rw [ints_len, List.length_take]; omega
  rw [e, List.replicate_succ, List.set_append_right _ _ (by omega), hl, Nat.sub_self, List.set_cons_zero, List.take_succ_eq_append_getElem h]
  unfold ints
  rw [List.map_append, List.append_assoc]; rfl
theorem fillTo_end (bn : List Nat) : fillTo bn bn.length = ints bn := by
  unfold fillTo
  rw [List.take_length, Nat.sub_self, List.replicate_zero, List.append_nil]
theorem fillTo_0 (bn : List Nat) : fillTo bn 0 = List.replicate bn.length 0 := rfl
structure FillInv (w : World) (n : Nat) (L : List Int) (wr : World) : Prop where
  hO : wr.heap[n]? = some (.cells (nums .i64 L).toArray 3 (0, 0))
  hn : w.heap.size ≤ n
  bel : Below w.heap.size w wr
theorem FillInv.cell {w : World} {n : Nat} {L L' : List Int} {wr : World} (h : FillInv w n L wr) (i : Nat) (v : Int) (e : L.set i v = L') : FillInv w n L' (wr.setCell ⟨n, i, none⟩ (.int .i64 v)) := by
  subst e
  have h4 := blk_set h.hO i (.int .i64 v)
  rw [nums_set] at h4
  exact ⟨h4, h.hn, h.bel.setCell h.hn _⟩
set_option maxHeartbeats 8000000 in
set_option maxRecDepth 100000 in
theorem Enc_any (A : Option Addr) (c : Nat) (bn : List Nat) (w : World) (hC : Kd.C (Kd.int .u8) w A bn.length (ints bn)) (hv : ∀ x ∈ bn, x < 2 ^ 8) (hl : bn.length ≤ 100000000) :
    Calls Tryd.prog 26 #[.slice A bn.length c] w fun e w' => e = .returned (.string (encF bn)) ∧ Below w.heap.size w w' := by
  have HC := Lib.hid hC
  have HV := Lib.hid hv
  have hmk := fun W => mk_ints bn.length (by omega) W
  clear hC hv
  go_enter Tryd.func26, Tryd.ntmps26
  go_wp2_with fail
  have HI0 := Lib.hid (FillInv.mk (heap_alloc_last w (.cells (nums .i64 (List.replicate bn.length 0)).toArray 3)) (Nat.le_refl _) (below_alloc (Below.refl _ _) _) : FillInv w w.heap.size (fillTo bn 0) _)
  obtain ⟨n, hn⟩ : ∃ n, n = w.heap.size := ⟨_, rfl⟩
  rw [← hn] at HI0 ⊢
  have HN := Lib.hid hn
  clear hn hmk
  go_loopw [4, 5, 12] (fun _ _ v wr => ∃ i : Nat, i ≤ bn.length ∧ v = .int .i64 (i : Int) ∧ FillInv w n (fillTo bn i) wr) (fun _ _ v _ => bn.length - (intOf v).toNat)
  case atStart => exact ⟨0, by omega, rfl, HI0.out⟩
  case round =>
    obtain ⟨i, hi, rfl, hI⟩ := hrel
    have HI := Lib.hid hI
    clear hI HI0
    have hlm := Kd.C_max HC.out
    by_cases hlt : i < bn.length
    · obtain ⟨ad, rfl, q0⟩ := at_castK HC.out i hlt
      have q1 := pw_cell_below HI.out.bel q0
      have q2 := cell_nums HI.out.hO i (by rw [fillTo_len bn i hi]; exact hlt)
      have f2 := blk_frozen HI.out.hO i
      have HS := Lib.hid (fillTo_set bn i hlt)
      have hb := HV.out _ (List.getElem_mem hlt)
      clear q0
      generalize bn[i] = x at *
      go_wp2_with fail
      go_roundw
      case rel => exact ⟨i + 1, by omega, by go_num, HI.out.cell i _ HS.out⟩
      case measure => simp [intOf]; omega
    · have hkl : i = bn.length := by omega
      subst hkl
      rw [fillTo_end] at HI
      have hge : ¬ ((bn.length : Int) < bn.length) := by omega
      go_wp2_with fail
      have hn := HI.out.hO
      have hw : n < wr.heap.size := blk_lt hn
      have HCN := Lib.hid (C_block hn (by rw [ints_len]; omega))
      have HP := Lib.hid (fun p I h0 hI h1 h2 => regE_any p I (some ⟨n, 0, none⟩) bn.length bn (wr.alloc (.cells #[.pointer none, .slice none 0 0] 86)) HV.out hl h0 hI h1 h2)
      have hfr := Lib.fresh_isBuilder 86 5 wr
      refine (HP.out ⟨wr.heap.size, 0, none⟩ (EncI wr.heap.size wr.heap.size (wr.alloc (.cells #[.pointer none, .slice none 0 0] 86))) ⟨hfr, Below.refl _ _⟩ ?_ ?_ ?_).mono ?_
      · intro es wq hq
        have h1 := Kd.C_below HCN.out ((below_alloc (Below.refl wr.heap.size wr) _).trans hq.bel)
        rw [ints_len] at h1
        exact h1
      · intro es v wq hq hl2 hv2
        exact Enc1_any _ _ _ (by simp) true es v wq hq hl2 hv2
      · intro es v wq hq hl2 hv2
        exact Enc1_any _ _ _ (by simp) false es v wq hq hl2 hv2
      rintro e3 w3 ⟨rfl, h3⟩
      have hs3 := h3.bel.size
      have H3 := Lib.hid h3
      clear h3 hfr hn hlt hge hi HP
      go_wp2_with fail
      refine (Tryd.Builder_String_any wr.heap.size wr.heap.size _ w3 H3.out.bld (by rw [World.size_alloc] at hs3; omega)).mono ?_
      rintro e4 w4 ⟨rfl, h4⟩
      have H4 := Lib.hid (HI.out.bel.trans (((below_alloc (Below.refl wr.heap.size wr) _).trans (H3.out.bel.trans h4)).mono HI.out.bel.size))
      clear h4
      go_wp2_with fail
      go_ret
      exact ⟨rfl, H4.out⟩
end Go.Proofs.YtipapffpfggmnaaDoor
namespace Go.Proofs.YtipapffpfggmnaaDoor
open Go.RowKit Go.Proofs.YtipapffpfggmnaaDoorW.PrintWords Go.Proofs.YtipapffpfggmnaaDoorW.PrintLast Go.Proofs.YtipapffpfggmnaaDoorW.PrintMore Go.Proofs.YtipapffpfggmnaaDoor.PRef
set_option linter.unusedVariables false
structure DecI (B p : Nat) (W : World) (es : List Nat) (w : World) : Prop where
  row : ∃ v, w.heap[p]? = some (.cells #[v] 22 (0, 0)) ∧ Kd.R (Kd.int .u8) 5 w B (fun _ => True) v (ints es)
  hp : B ≤ p
  bel : Below B W w
theorem ints_app (a b : List Nat) : ints (a ++ b) = ints a ++ ints b := by unfold ints; exact List.map_append
set_option maxHeartbeats 8000000 in
set_option maxRecDepth 100000 in
theorem Dec1_true (B p : Nat) (W : World) (hB : B ≤ W.heap.size) (es : List Nat) (v : Nat) (w : World) (h : DecI B p W es w) (hl : es.length < 400000000) (hv : v < 2 ^ 8) :
    Calls Tryd.prog 55 #[.int .i64 (v : Int), .bool true, .pointer (some ⟨p, 0, none⟩)] w fun e w' => e = .returned (.tuple #[]) ∧ DecI B p W (es ++ [v]) w' := by
  obtain ⟨⟨s, hp, hR⟩, hBp, hbel⟩ := h
  have hbs := hbel.size
  obtain ⟨A, c, rfl, hc, -⟩ := Kd.R_reads hR
  rw [ints_len] at hR hc hp
  have HR := Lib.hid hR
  have HP := Lib.hid hp
  have HB := Lib.hid hbel
  have hne := Kd.R_ne hR hp (by decide)
  have HNE := Lib.hid hne
  have q0 : w.cell? ⟨p, 0, none⟩ = some (.slice A es.length c) := blk_cell hp 0
  have hv8 : ((v : Int) % 256) = (v : Int) := by omega
  clear hp hR hbel hne
  go_enter Tryd.func55, Tryd.ntmps55
  go_wp2_with ((with_reducible refine gate_builtin (b := .append) (xs := #[.tmp 6, .tmp 9]) rfl ?_); at_builtin; refine Kd.R_append (Kd.int .u8) (w0 := W) B rfl (.tmp 6) (.tmp 9) 22 5 (.int .u8 0) 1 rfl Tryd.underlying22 infoEB rfl (by decide) (by decide) (.slice A es.length c) (ints es) (v : Int) [.int .u8 (v : Int)] (fun _ => True) (fun _ => False) rfl rfl ?aP (fun _ hk => hk.elim) ?aF ?aO ?aB ?aS ?aL ?_)
  case aP => exact rfl
  case aF => exact fun _ _ => trivial
  case aO => exact HR.out
  case aB => exact HB.out
  case aS => omega
  case aL => rw [ints_len]; omega
  intro v1 w1 hR1 hB1 hg1 _
  have hp1 : w1.heap[p]? = some (.cells #[.slice A es.length c] 22 (0, 0)) := (hg1.block p (blk_lt HP.out) HNE.out).trans HP.out
  rw [show ints es ++ [(v : Int)] = ints (es ++ [v]) from (ints_app es [v]).symm] at hR1
  obtain ⟨A1, c1, rfl, hc1, -⟩ := Kd.R_reads hR1
  have hset : (w1.setCell ⟨p, 0, none⟩ (.slice A1 (ints (es ++ [v])).length c1)).heap[p]? = _ := blk_set hp1 0 (.slice A1 (ints (es ++ [v])).length c1)
  have HN := Lib.hid (DecI.mk ⟨_, hset, Kd.R_set hR1 hp1 (by decide) 0 _⟩ hBp (hB1.setCell (p := ⟨p, 0, none⟩) hBp _) : DecI B p W (es ++ [v]) _)
  have c0 : w1.cell? ⟨p, 0, none⟩ = some (.slice A es.length c) := blk_cell hp1 0
  have f0 := blk_frozen hp1 0
  clear hR1 hset hp1 hB1 hg1
  go_wp2_with fail
  go_end0
  exact ⟨rfl, HN.out⟩
theorem Dec1_false (B p : Nat) (W : World) (es : List Nat) (v : Nat) (w : World) (h : DecI B p W es w) :
    Calls Tryd.prog 55 #[.int .i64 (v : Int), .bool false, .pointer (some ⟨p, 0, none⟩)] w fun e w' => e = .returned (.tuple #[]) ∧ DecI B p W es w' := by
  have H := Lib.hid h
  clear h
  go_enter Tryd.func55, Tryd.ntmps55
  go_wp2_with fail
  go_end0
  exact ⟨rfl, H.out⟩
end Go.Proofs.YtipapffpfggmnaaDoor
namespace Go.Proofs.YtipapffpfggmnaaDoor
open Go.RowKit Go.Proofs.YtipapffpfggmnaaDoorW.PrintWords Go.Proofs.YtipapffpfggmnaaDoorW.PrintLast Go.Proofs.YtipapffpfggmnaaDoorW.PrintMore Go.Proofs.YtipapffpfggmnaaDoor.PRef
set_option linter.unusedVariables false
set_option maxHeartbeats 8000000 in
set_option maxRecDepth 100000 in
theorem Val_any (c : UInt8) (w : World) :
    Calls Tryd.prog 54 #[.int .u8 (c.toNat : Int)] w fun e w' => e = .returned (.tuple #[.int .i64 (max (Lib.indexByte abc c) 0), .bool (decide (Lib.indexByte abc c ≥ 0))]) ∧ w' = w := by
  have hs := fun s => Tryd.strings_IndexByte s (c.toNat : Int) w
  rw [show ((c.toNat : Int).toNat).toUInt8 = c from by simp] at hs
  have hs := Lib.hid hs
  go_enter Tryd.func54, Tryd.ntmps54
  go_wp2_with fail
  refine (hs.out _).mono ?_
  rintro e1 w1 ⟨rfl, rfl⟩
  go_wp2_with fail
  go_ret2
  exact ⟨rfl, rfl⟩
/-- The value of a sign. -/
def sval (c : UInt8) : Option Nat := if Lib.indexByte abc c ≥ 0 then some (Lib.indexByte abc c).toNat else none
theorem sval_some {c : UInt8} {v : Nat} (h : sval c = some v) : v < 64 ∧ sgn v = c ∧ Lib.indexByte abc c = (v : Int) := by
  unfold sval at h
  split at h
  · have e : Lib.indexByte abc c = (v : Int) := by have := Option.some.inj h; omega
    have h1 := (Lib.indexByte_some e).1
    have h2 : v < 64 := (List.getElem?_eq_some_iff.1 h1).1
    refine ⟨h2, ?_, e⟩
    unfold sgn
    rw [List.getD_eq_getElem?_getD, h1]; rfl
  · cases h
theorem sval_none {c : UInt8} (h : sval c = none) : Lib.indexByte abc c < 0 := by
  unfold sval at h
  split at h
  · cases h
  · omega
set_option maxRecDepth 100000 in
theorem sval_sgn : ∀ v : Fin 64, sval (sgn v.val) = some v.val := by decide
theorem sgn_inj {a b : Nat} (ha : a < 64) (hb : b < 64) (h : sgn a = sgn b) : a = b := by
  have h1 := sval_sgn ⟨a, ha⟩
  have h2 := sval_sgn ⟨b, hb⟩
  rw [show sgn (⟨a, ha⟩ : Fin 64).val = sgn (⟨b, hb⟩ : Fin 64).val from h, h2] at h1
  exact (Option.some.inj h1).symm
def vals (L : List UInt8) : List Nat := L.map fun c => (sval c).getD 0
theorem vals_len (L : List UInt8) : (vals L).length = L.length := List.length_map _
theorem vals_lt (L : List UInt8) : ∀ x ∈ vals L, x < 2 ^ 6 := by
  intro x hx
  obtain ⟨c, -, rfl⟩ := List.mem_map.1 hx
  rcases h : sval c with _ | v
  · exact (by decide : (0 : Nat) < 2 ^ 6)
  · exact (sval_some h).1
theorem vals_at (L : List UInt8) (i : Nat) (h : i < L.length) {v : Nat} (hv : sval L[i] = some v) : (vals L)[i]'(by rw [vals_len]; exact h) = v := by
  unfold vals
  rw [List.getElem_map, hv]; rfl
/-- Good signs are the signs of their values. -/
theorem vals_sgn (L : List UInt8) (h : ∀ c ∈ L, (sval c).isNone = false) : (vals L).map sgn = L := by
  unfold vals
  rw [List.map_map]
  conv => rhs; rw [← List.map_id L]
  apply List.map_congr_left
  intro c hc
  rcases h2 : sval c with _ | v
  · have := h c hc; rw [h2] at this; cases this
  · show sgn ((sval c).getD 0) = c
    rw [h2]; exact (sval_some h2).2.1
theorem map_sgn_inj : ∀ {a b : List Nat}, (∀ x ∈ a, x < 64) → (∀ x ∈ b, x < 64) → a.map sgn = b.map sgn → a = b
  | [], [], _, _, _ => rfl
  | [], _ :: _, _, _, h => by cases h
  | _ :: _, [], _, _, h => by cases h
  | x :: a, y :: b, ha, hb, h => by
    rw [List.map_cons, List.map_cons] at h
    injection h with h1 h2
    rw [sgn_inj (ha x (List.mem_cons_self ..)) (hb y (List.mem_cons_self ..)) h1, map_sgn_inj (fun z hz => ha z (List.mem_cons_of_mem _ hz)) (fun z hz => hb z (List.mem_cons_of_mem _ hz)) h2]
/-- What both Decodes compute: bytes, and the offset of the error (-1: none). -/
def decF (L : List UInt8) : List Nat × Int :=
  match L.findIdx? (fun c => (sval c).isNone) with
  | some i => ([], (i : Int))
  | none => if encF (PB.dec8 (vals L)) = ⟨L.toArray⟩ then (PB.dec8 (vals L), -1) else ([], (L.length : Int) - 1)
theorem enc_back (L : List UInt8) (h : ∀ c ∈ L, (sval c).isNone = false) : encF (PB.dec8 (vals L)) = ⟨L.toArray⟩ ↔ PB.Tight (vals L) := by
  rw [← PB.enc_dec (vals_lt L)]
  constructor
  · intro he
    unfold encF at he
    have h1 : (PB.enc6 (PB.dec8 (vals L))).map sgn = L := by
      have h2 := congrArg (fun b : ByteArray => b.data.toList) he
      simpa using h2
    exact map_sgn_inj (PB.enc6_lt _) (vals_lt L) (h1.trans (vals_sgn L h).symm)
  · intro he
    unfold encF
    rw [he, vals_sgn L h]
end Go.Proofs.YtipapffpfggmnaaDoor
namespace Go.Proofs.YtipapffpfggmnaaDoor
open Go.RowKit Go.Proofs.YtipapffpfggmnaaDoorW.PrintWords Go.Proofs.YtipapffpfggmnaaDoorW.PrintLast Go.Proofs.YtipapffpfggmnaaDoorW.PrintMore Go.Proofs.YtipapffpfggmnaaDoor.PRef
set_option linter.unusedVariables false
def DecPost (r : List Nat × Int) (w : World) (e : Ending) (w' : World) : Prop := ∃ A c, e = .returned (.tuple #[.slice A r.1.length c, .int .i64 r.2]) ∧ Kd.R (Kd.int .u8) 5 w' w.heap.size (fun _ => True) (.slice A r.1.length c) (ints r.1) ∧ Below w.heap.size w w'
theorem dec_nil (L : List UInt8) (w w' : World) (hb : Below w.heap.size w w') (x : Int) (h : decF L = ([], x)) : DecPost (decF L) w (.returned (.tuple #[.slice none 0 0, .int .i64 x])) w' := by
  rw [h]
  exact ⟨none, 0, rfl, Kd.R_nil _ _ _ _ _, hb⟩
theorem decF_bad (L : List UInt8) (i : Nat) (h : i < L.length) (hb : sval L[i] = none) (hg : ∀ j (hj : j < i), (sval (L[j]'(by omega))).isNone = false) : decF L = ([], (i : Int)) := by
  have : L.findIdx? (fun c => (sval c).isNone) = some i := by
    rw [List.findIdx?_eq_some_iff_getElem]
    exact ⟨h, by rw [hb]; rfl, fun j hj => by rw [hg j hj]; decide⟩
  unfold decF
  rw [this]
theorem decF_good (L : List UInt8) (hg : ∀ c ∈ L, (sval c).isNone = false) : decF L = if encF (PB.dec8 (vals L)) = ⟨L.toArray⟩ then (PB.dec8 (vals L), -1) else ([], (L.length : Int) - 1) := by
  have : L.findIdx? (fun c => (sval c).isNone) = none := by
    rw [List.findIdx?_eq_none_iff]
    exact hg
  unfold decF
  rw [this]
theorem fill_start (w : World) (vs : List Nat) (n : Nat) (h : vs.length = n) : FillInv w w.heap.size (fillTo vs 0) (w.alloc (.cells (nums .i64 (List.replicate n 0)).toArray 3)) := by
  subst h
  exact ⟨heap_alloc_last _ _, Nat.le_refl _, below_alloc (Below.refl _ _) _⟩
set_option maxHeartbeats 8000000 in
set_option maxRecDepth 100000 in
theorem Dec_any (s : ByteArray) (w : World) (hl : s.size ≤ 100000000) :
    Calls Tryd.prog 34 #[.string s] w (DecPost (decF s.data.toList) w) := by
  have hmk := fun W => mk_ints s.size (by omega) W
  have hsz : s.data.toList.length = s.size := rfl
  have hvl : (vals s.data.toList).length = s.size := by rw [vals_len]; rfl
  go_enter Tryd.func34, Tryd.ntmps34
  go_wp2_with fail
  have HI0 := Lib.hid ((fill_start w _ s.size hvl) : FillInv w w.heap.size (fillTo (vals s.data.toList) 0) (w.alloc (.cells (nums .i64 (List.replicate s.size 0)).toArray 3)))
  obtain ⟨n, hn⟩ : ∃ n, n = w.heap.size := ⟨_, rfl⟩
  rw [← hn] at HI0 ⊢
  have HN := Lib.hid hn
  clear hn hmk
  go_loopw [5, 6, 7, 14] (fun _ _ _ v wr => ∃ i : Nat, ∃ _ : i ≤ s.data.toList.length, v = .int .i64 (i : Int) ∧ FillInv w n (fillTo (vals s.data.toList) i) wr ∧ ∀ j (hj : j < i), (sval (s.data.toList[j]'(by omega))).isNone = false) (fun _ _ _ v _ => s.size - (intOf v).toNat)
  case atStart => exact ⟨0, by omega, rfl, HI0.out, by omega⟩
  case round =>
    obtain ⟨i, hi, rfl, hI, hG⟩ := hrel
    have HI := Lib.hid hI
    have HG := Lib.hid hG
    clear hI HI0 hG
    by_cases hlt : i < s.data.toList.length
    · have hlt2 : i < s.size := hlt
      have q2 := cell_nums HI.out.hO i (by rw [fillTo_len _ i (by rw [hvl]; omega), hvl]; exact hlt2)
      have f2 := blk_frozen HI.out.hO i
      go_wp2_with fail
      refine (Val_any s[i] wr).mono ?_
      rintro e1 w1 ⟨rfl, rfl⟩
      rcases hsv : sval s[i] with _ | v
      · have hx := sval_none hsv
        have HB := Lib.hid (decF_bad s.data.toList i hlt hsv HG.out)
        generalize Lib.indexByte abc s[i] = x at *
        have h1 : max x 0 = 0 := by omega
        have h2 : decide (x ≥ 0) = false := by simp; omega
        rw [h1, h2]
        clear h1 h2 hx
        go_wp2_with fail
        go_ret2
        exact dec_nil _ w _ HI.out.bel _ HB.out
      · obtain ⟨hv, hsg, hx⟩ := sval_some hsv
        have HS := Lib.hid (fillTo_set (vals s.data.toList) i (by rw [hvl]; exact hlt2))
        rw [vals_at s.data.toList i hlt hsv] at HS
        have HG2 := Lib.hid (show ∀ (j : Nat) (hj : j < i + 1), (sval (s.data.toList[j]'(by omega))).isNone = false from fun j hj => by
          rcases Nat.lt_or_ge j i with h | h
          · exact HG.out j h
          · have : j = i := by omega
            subst this
            show (sval s[j]).isNone = false
            rw [hsv]; rfl)
        generalize Lib.indexByte abc s[i] = x at *
        have h1 : max x 0 = (v : Int) := by omega
        have h2 : decide (x ≥ 0) = true := by simp; omega
        rw [h1, h2]
        clear h1 h2 hx hsv hsg
        go_wp2_with fail
        go_roundw
        case rel => exact ⟨i + 1, by omega, by go_num, HI.out.cell i _ HS.out, HG2.out⟩
        case measure => simp [intOf]; omega
    · have hkl : i = s.size := by omega
      have hge : ¬ ((i : Int) < s.size) := by omega
      subst hkl
      have hgood : ∀ c ∈ s.data.toList, (sval c).isNone = false := fun c hc => by
        obtain ⟨j, hj, rfl⟩ := List.getElem_of_mem hc
        exact HG.out j (by omega)
      have HD := Lib.hid (decF_good s.data.toList hgood)
      clear hgood HG
      have hn := HI.out.hO
      have hw : n < wr.heap.size := blk_lt hn
      have hf : fillTo (vals s.data.toList) s.size = ints (vals s.data.toList) := by rw [← hvl]; exact fillTo_end _
      rw [hf] at hn
      have HCN := Lib.hid (C_block hn (by rw [ints_len, hvl]; omega))
      have HV := vals_lt s.data.toList
      have HP := Lib.hid (fun p I h0 hI h1 h2 => regD_any p I (some ⟨n, 0, none⟩) s.size (vals s.data.toList) (wr.alloc (.cells #[.slice none 0 0] 22)) HV (by rw [hvl]; exact hl) h0 hI h1 h2)
      rw [hvl] at HP
      have h0 : DecI wr.heap.size wr.heap.size (wr.alloc (.cells #[.slice none 0 0] 22)) [] (wr.alloc (.cells #[.slice none 0 0] 22)) := ⟨⟨_, heap_alloc_last _ _, Kd.R_nil _ _ _ _ _⟩, Nat.le_refl _, Below.refl _ _⟩
      have H0 := Lib.hid h0
      clear hf hlt HV h0 hn
      go_wp2_with fail
      refine (HP.out ⟨wr.heap.size, 0, none⟩ (DecI wr.heap.size wr.heap.size (wr.alloc (.cells #[.slice none 0 0] 22))) H0.out ?_ ?_ ?_).mono ?_
      · intro es wq hq
        have h1 := Kd.C_below HCN.out ((below_alloc (Below.refl wr.heap.size wr) _).trans hq.bel)
        rw [ints_len, hvl] at h1
        exact h1
      · intro es v wq hq hl2 hv2
        exact Dec1_true _ _ _ (by simp) es v wq hq hl2 hv2
      · intro es v wq hq hl2 hv2
        exact Dec1_false _ _ _ es v wq hq
      rintro e3 w3 ⟨rfl, ⟨v3, hp3, hR3⟩, -, hb3⟩
      have hs3 := hb3.size
      rw [World.size_alloc] at hs3
      obtain ⟨A, c, rfl, hc, hC3⟩ := Kd.R_reads hR3
      rw [ints_len] at hp3 hR3 hC3 hc
      have HR3 := Lib.hid hR3
      have HC3 := Lib.hid hC3
      have HP3 := Lib.hid hp3
      have q3 : w3.cell? ⟨wr.heap.size, 0, none⟩ = some (.slice A (PB.dec8 (vals s.data.toList)).length c) := blk_cell hp3 0
      have hdl : (PB.dec8 (vals s.data.toList)).length ≤ 100000000 := by rw [PB.dec8_len, hvl]; unfold PB.decN; omega
      have HB3 := Lib.hid (HI.out.bel.trans (((below_alloc (Below.refl wr.heap.size wr) _).trans hb3).mono HI.out.bel.size))
      have hd8 := PB.dec8_lt (vals s.data.toList)
      have HD8 := Lib.hid hd8
      clear hR3 hC3 hp3 hb3 H0 HCN HP hd8
      generalize PB.dec8 (vals s.data.toList) = D at *
      go_wp2_with fail
      refine (Enc_any A c D w3 HC3.out HD8.out hdl).mono ?_
      rintro e4 w4 ⟨rfl, hb4⟩
      have q4 : w4.cell? ⟨wr.heap.size, 0, none⟩ = some (.slice A D.length c) := pw_cell_below hb4 q3
      have HR4 := Lib.hid (Kd.R_below HR3.out hb4)
      have HB4 := Lib.hid (HB3.out.trans (hb4.mono HB3.out.size))
      clear hb4 q3
      by_cases he : encF D = ⟨s.data.toList.toArray⟩
      · rw [if_pos he] at HD
        have he2 : encF D = s := he.trans (by simp)
        rw [he2]
        go_wp2_with fail
        go_ret2
        rw [HD.out]
        exact ⟨A, c, rfl, Kd.R_lower HR4.out HI.out.bel.size, HB4.out⟩
      · rw [if_neg he] at HD
        have he2 : (!(encF D).toList == s.toList) = true := by
          rcases hq : ((encF D).toList == s.toList) with _ | _
          · rfl
          · exfalso
            apply he
            have h1 := eq_of_beq hq
            rw [ByteArray.toList_eq, ByteArray.toList_eq] at h1
            have h2 := congrArg List.toArray h1
            simp only [Array.toArray_toList] at h2
            show encF D = ⟨s.data.toList.toArray⟩
            rw [Array.toArray_toList, ← h2]
        go_wp2_with fail
        go_ret2
        exact dec_nil _ w _ HB4.out _ HD.out
end Go.Proofs.YtipapffpfggmnaaDoor
