/-
  Short of package digest.
-/
import Derived.Test.YtnokgaipepejfaaGreatDoorDigR
import Derived.Test.YtnokgaipepejfaaGreatDoorWWords
import Derived.Test.YtnokgaipepejfaaGreatDoorWLast
import Derived.Test.YtnokgaipepejfaaGreatDoorWMore
import Derived.Deep.RegionHeld3
namespace Go.Proofs.YtnokgaipepejfaaGreatDoor
open Go.RowKit Go.Proofs.YtnokgaipepejfaaGreatDoorW.PrintWords Go.Proofs.YtnokgaipepejfaaGreatDoorW.PrintLast Go.Proofs.YtnokgaipepejfaaGreatDoorW.PrintMore
set_option linter.unusedVariables false
set_option linter.unusedSimpArgs false
def hx (n : Int) : Int := if n < 10 then 48 + n else 87 + n
def digS : Value := .string ⟨#[48, 49, 50, 51, 52, 53, 54, 55, 56, 57, 97, 98, 99, 100, 101, 102]⟩

theorem infoEB : (Tryz.prog.info? 5).map (fun i => (i.zero, i.size, i.bytes)) = some (some (.int .u8 0), 1, 1) := by kernel_rfl
def hexs : List Int → List Int
  | [] => []
  | x :: l => hx (x / 16) :: hx (x % 16) :: hexs l
theorem hexs_append : ∀ (a b : List Int), hexs (a ++ b) = hexs a ++ hexs b
  | [], _ => rfl
  | x :: a, b => by show hx _ :: hx _ :: hexs (a ++ b) = _; rw [hexs_append a b]; rfl
theorem hexs_len : ∀ a : List Int, (hexs a).length = 2 * a.length
  | [] => rfl
  | x :: a => by show (hexs a).length + 1 + 1 = 2 * (a.length + 1); rw [hexs_len a]; omega
def Byt (d : List Int) : Prop := ∀ x ∈ d, 0 ≤ x ∧ x < 256
theorem C_blockF {k : IntKind} {w : World} {g : Nat} {l : List Int} {t : TypeId} {fr : Nat × Nat} (h : w.heap[g]? = some (.cells (nums k l).toArray t fr)) (hl : l.length ≤ 9223372036854775807) : Kd.C (Kd.int k) w (some ⟨g, 0, none⟩) l.length l := by
  refine ⟨rfl, hl, fun _ => ⟨_, rfl, fun j q hj => ⟨[.int k q], rfl, rfl, fun i u hi => ?_⟩⟩⟩
  have hi0 : i = 0 := by
    have := (List.getElem?_eq_some_iff.1 hi).1
    simp at this; exact this
  subst hi0
  have hu : u = .int k q := by simpa using hi.symm
  subst hu
  have e : j * (Kd.int k).sz + 0 = j := by show j * 1 + 0 = j; omega
  rw [e]
  show w.cell? _ = _
  unfold nums at h
  rcases j with _ | j <;> simp [World.cell?, h, Addr.add, hj]
theorem C_cell {k : IntKind} {w : World} {A : Option Addr} {l : List Int} (h : Kd.C (Kd.int k) w A l.length l) (h0 : 0 < l.length) : ∃ ad, A = some ad ∧ ∀ j (hj : j < l.length), w.cell? (ad.add j) = some (.int k l[j]) := by
  obtain ⟨ad, ha, h4⟩ := h.2.2 h0
  refine ⟨ad, ha, fun j hj => ?_⟩
  obtain ⟨inner, h1, h2, h3⟩ := h4 j l[j] (List.getElem?_eq_getElem hj)
  have h2' : inner = [.int k l[j]] := h2
  have := h3 0 (.int k l[j]) (by rw [h2']; rfl)
  have e : j * (Kd.int k).sz + 0 = j := by show j * 1 + 0 = j; omega
  rw [e] at this
  exact this
def strOf (l : List Int) : ByteArray := ⟨(l.map fun x => UInt8.ofNat x.toNat).toArray⟩
theorem hx_byte {n : Int} (h0 : 0 ≤ n) (h1 : n < 16) : 0 ≤ hx n ∧ hx n < 256 := by unfold hx; split <;> omega
theorem hexs_byte : ∀ (l : List Int), Byt l → Byt (hexs l)
  | [], _ => fun x h => by cases h
  | y :: l, h => fun x hx' => by
    have hy := h y (List.mem_cons_self ..)
    rcases List.mem_cons.1 hx' with rfl | hx'
    · exact hx_byte (by omega) (by omega)
    · rcases List.mem_cons.1 hx' with rfl | hx'
      · exact hx_byte (by omega) (by omega)
      · exact hexs_byte l (fun z hz => h z (List.mem_cons_of_mem _ hz)) x hx'
theorem conv_back {w : World} {A : Option Addr} {l : List Int} {c : Nat} (h : Kd.C (Kd.int .u8) w A l.length l) (h0 : 0 < l.length) (hb : Byt l) : (convert 27 9 (.slice A l.length c)).run Tryz.prog w = .ok (.string (strOf l)) w := by
  obtain ⟨ad, rfl, hc⟩ := C_cell h h0
  have h := run_convert_bytes_back (P := Tryz.prog) w 27 9 5 ad c (l.map fun x => UInt8.ofNat x.toNat) Tryz.underlying27 Tryz.underlying5 Tryz.underlying9 (fun j hj => by
    have hj' : j < l.length := by simpa using hj
    rw [hc j hj']
    have hb' := hb l[j] (List.getElem_mem _)
    simp only [List.getElem_map]
    congr 2
    rw [UInt8.toNat_ofNat']
    omega)
  rw [List.length_map] at h
  exact h
theorem hexs_take {d : List Int} {i : Nat} (h : i < d.length) : hexs (d.take (i + 1)) = hexs (d.take i) ++ [hx (d[i] / 16), hx (d[i] % 16)] := by
  rw [List.take_succ_eq_append_getElem h, hexs_append]; rfl
theorem idx_hex (n : Int) (h0 : 0 ≤ n) (h1 : n < 16) (W : World) : (Instr.index 9 (.string ⟨#[48, 49, 50, 51, 52, 53, 54, 55, 56, 57, 97, 98, 99, 100, 101, 102]⟩) (.int .u8 n)).run Tryz.prog W = .ok (.int .u8 (hx n)) W := by
  have : n = 0 ∨ n = 1 ∨ n = 2 ∨ n = 3 ∨ n = 4 ∨ n = 5 ∨ n = 6 ∨ n = 7 ∨ n = 8 ∨ n = 9 ∨ n = 10 ∨ n = 11 ∨ n = 12 ∨ n = 13 ∨ n = 14 ∨ n = 15 := by omega
  rcases this with rfl | rfl | rfl | rfl | rfl | rfl | rfl | rfl | rfl | rfl | rfl | rfl | rfl | rfl | rfl | rfl <;> simp [run_index_string _ _ _ _ _ Tryz.underlying9, hx] <;> rfl
theorem and15 (n : Int) (h0 : 0 ≤ n) (h1 : n < 256) : bits BinOp.and IntKind.u8 n 15 = n % 16 := by
  obtain ⟨m, rfl⟩ := Int.eq_ofNat_of_zero_le h0
  have h : ∀ k : Fin 256, bits BinOp.and IntKind.u8 (k.val : Int) 15 = (k.val : Int) % 16 := by decide +kernel
  exact h ⟨m, by omega⟩
set_option maxRecDepth 100000 in
theorem short_any (d : List Int) (hd : d.length = 32) (hb : Byt d) (w : World) : Calls Tryz.prog 5 #[.agg (nums .u8 d).toArray] w fun e w' => e = .returned (.string (strOf (hexs (d.take 4)))) ∧ Below w.heap.size w w' := by
  go_enter Tryz.func5, Tryz.ntmps5
  go_wp2_with fail
  have HA : (w.alloc (Obj.cells (nums IntKind.u8 d).toArray 22)).heap[w.heap.size]? = some (Obj.cells (nums IntKind.u8 d).toArray 22) := World.alloc_heap_new _ _
  have HB := (Below.refl _ w).alloc (Nat.le_refl _) (Obj.cells (nums IntKind.u8 d).toArray 22)
  have hsz : w.heap.size + 1 ≤ (w.alloc (Obj.cells (nums IntKind.u8 d).toArray 22)).heap.size := by simp
  generalize w.alloc (Obj.cells (nums IntKind.u8 d).toArray 22) = w1 at *
  go_loopw [3, 8] (fun v n wr => ∃ i : Nat, i ≤ 4 ∧ n = .int .i64 (i : Int) ∧ Kd.R (Kd.int .u8) 5 wr w1.heap.size (fun _ => True) v (hexs (d.take i)) ∧ Below w1.heap.size w1 wr) (fun _ n _ => (4 - (intOf n)).toNat)
  case atStart => exact ⟨0, by omega, rfl, Kd.R_nil _ _ _ _ _, Below.refl _ _⟩
  case round =>
    obtain ⟨i, hi, rfl, hR, hBr⟩ := hrel
    have hcel : ∀ j (hj : j < d.length), wr.cell? ⟨w.heap.size, j, none⟩ = some (.int .u8 d[j]) := fun j hj => by
      have : wr.heap[w.heap.size]? = some (Obj.cells (nums IntKind.u8 d).toArray 22) := (hBr.block w.heap.size (by omega)).trans HA
      unfold World.cell?
      simp only [this]
      simp [nums, hj]
    rcases Nat.lt_or_ge i 4 with h4 | h4
    · have hci := hcel i (by omega)
      have hdi := hb d[i] (List.getElem_mem _)
      have h4' : ((i : Nat) : Int) < 4 := by omega
      have hi1 := idx_hex (d[i] / 16) (by omega) (by omega)
      have hi2 := idx_hex (d[i] % 16) (by omega) (by omega)
      have ha := and15 d[i] hdi.1 hdi.2
      go_wp2_with fail
      have hbd : Below wr.heap.size wr (wr.drew.alloc (.cells #[.int .u8 (hx (d[i] / 16)), .int .u8 (hx (d[i] % 16))] 5)) := ((Below.refl _ wr).drew).alloc (Nat.le_refl _) _
      have HRB := Lib.hid (Kd.R_below hR hbd)
      have HLB := Lib.hid (C_blockF (k := .u8) (l := [hx (d[i] / 16), hx (d[i] % 16)]) (World.alloc_heap_new wr.drew (.cells #[.int .u8 (hx (d[i] / 16)), .int .u8 (hx (d[i] % 16))] 5)) (by simp))
      have hbw := hBr.trans (hbd.mono hBr.size)
      have HBW := Lib.hid hbw
      have HS1 := Lib.hid hbw.size
      have hln := Lib.hid (show (hexs (d.take i)).length + 2 ≤ 100 by rw [hexs_len, List.length_take]; omega)
      clear hbd hR hbw
      go_region_held3 (fun _ => True) (trivial) (first | (refine Kd.R_append_rows_step (Kd.int .u8) (w0 := w1) w1.heap.size (by rfl) (.tmp 12) (.tmp 19) 27 5 (.int .u8 0) 1 (by rfl) Tryz.underlying27 infoEB rfl (by decide) (by decide) u3 (hexs (d.take i)) [hx (d[i] / 16), hx (d[i] % 16)] (some ⟨wr.heap.size, 0, none⟩) 2 2 (fun _ => True) (fun _ => False) (by rfl) (by rfl) HRB.out HLB.out (fun _ _ h => h) (fun _ h => h.elim) (fun _ _ => trivial) HBW.out HS1.out (by have := hln.out; omega) ?_; intro v3 w3 hR3 hB3 hg3 hat3; have HR3 := Lib.hid hR3; have HB3 := Lib.hid hB3; clear hR3 hB3 hg3 hat3) | fail)
      all_goals (go_wp2_with fail; go_roundw)
      all_goals first | exact ⟨i + 1, by omega, by simp, by rw [hexs_take]; exact HR3.out, HB3.out⟩ | (simp [intOf]; omega)
    · obtain rfl : i = 4 := by omega
      have hl4 : (hexs (d.take 4)).length = 8 := by rw [hexs_len, List.length_take]; omega
      have hby : Byt (hexs (d.take 4)) := hexs_byte _ fun x hx' => hb x (List.mem_of_mem_take hx')
      obtain ⟨A, c, rfl, hc, hC⟩ := Kd.R_reads hR
      have hcv := conv_back (c := c) hC (by omega) hby
      clear hR hC
      rw [hl4] at hcv
      go_wp2_with fail
      go_ret
      exact ⟨rfl, HB.trans (hBr.mono HB.size)⟩
end Go.Proofs.YtnokgaipepejfaaGreatDoor
