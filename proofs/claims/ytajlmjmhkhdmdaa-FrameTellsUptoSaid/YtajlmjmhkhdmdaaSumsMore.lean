/- The walk of sums.More and sums.Crc: the closure turns the register, eight times a byte. No conditions but the arguments' kinds. -/
import Derived.Test.YtajlmjmhkhdmdaaProg
import Derived.WalkKit
import Derived.WalkSpells
import Derived.OneCell
import Derived.Lib.Hide
import Derived.Test.YtajlmjmhkhdmdaaWWords
set_option linter.unusedVariables false
set_option linter.unusedSimpArgs false
namespace Go.Proofs.Ytajlmjmhkhdmdaa.Sums
open Go.RowKit Go.Proofs.YtajlmjmhkhdmdaaW.PrintWords

/-- One turn of the register. -/
def turn (x : BitVec 32) : BitVec 32 := if x &&& 1#32 = 1#32 then (x >>> 1) ^^^ 3988292384#32 else x >>> 1
/-- So many turns. -/
def turns : Nat → BitVec 32 → BitVec 32
  | 0, x => x
  | n + 1, x => turn (turns n x)
/-- One byte taken in. -/
def feed (x : BitVec 32) (c : Int) : BitVec 32 := turns 8 (x ^^^ BitVec.ofInt 32 c)
/-- The register behind bytes. -/
def feeds (x : BitVec 32) (l : List Int) : BitVec 32 := l.foldl feed x
/-- The sum that goes on behind another one. -/
def more (s : BitVec 32) (l : List Int) : BitVec 32 := ~~~ feeds (~~~ s) l

abbrev w32 (x : BitVec 32) : Value := .int .u32 (x.toNat : Int)

theorem bits_bv (op : BinOp) (f : BitVec 32 → BitVec 32 → BitVec 32) (hf : ∀ x y, Go.bits op .u32 x y = IntKind.u32.wrap (f (BitVec.ofInt 32 x) (BitVec.ofInt 32 y)).toNat) (a b : BitVec 32) :
    Go.bits op .u32 (a.toNat : Int) (b.toNat : Int) = ((f a b).toNat : Int) := by
  rw [hf]
  have h1 : BitVec.ofInt 32 (a.toNat : Int) = a := by simp
  have h2 : BitVec.ofInt 32 (b.toNat : Int) = b := by simp
  rw [h1, h2, IntKind.wrap_u32]
  have := (f a b).isLt
  omega
theorem xor_bv (a b : BitVec 32) : Go.bits .xor .u32 (a.toNat : Int) (b.toNat : Int) = ((a ^^^ b).toNat : Int) := bits_bv .xor _ (fun _ _ => rfl) a b
theorem and_bv (a b : BitVec 32) : Go.bits .and .u32 (a.toNat : Int) (b.toNat : Int) = ((a &&& b).toNat : Int) := bits_bv .and _ (fun _ _ => rfl) a b
theorem half_bv (a : BitVec 32) : Int.ofNat a.toNat / (2 : Int) = Int.ofNat (a >>> 1).toNat := by
  rw [BitVec.toNat_ushiftRight, Nat.shiftRight_eq_div_pow]; simp only [Int.ofNat_eq_natCast]; omega

set_option maxHeartbeats 400000 in
theorem turn_calls (b : Nat) (x : BitVec 32) (w : World) (hb : w.heap[b]? = some (.cells #[w32 x] 57 (0, 0))) :
    Calls Try.prog 37 #[.pointer (some ⟨b, 0, none⟩)] w fun e w' => e = .returned (.tuple #[]) ∧ w'.heap[b]? = some (.cells #[w32 (turn x)] 57 (0, 0)) ∧ Below b w w' := by
  have hc := cell_of_one hb
  have hf := free_of_one hb
  have h0 : 0 ≤ (x.toNat : Int) := by omega
  have h1 : (x.toNat : Int) < 4294967296 := by have := x.isLt; omega
  have ha := and_bv x 1#32
  have hx : (Go.bits .and .u32 (x.toNat : Int) 1 = 1) ↔ x &&& 1#32 = 1#32 := by
    rw [show (1 : Int) = ((1#32).toNat : Int) from rfl, ha]
    constructor
    · intro h; exact BitVec.eq_of_toNat_eq (by omega)
    · intro h; rw [h]
  clear ha
  by_cases h : x &&& 1#32 = 1#32
  · have hd : (Go.bits .and .u32 (x.toNat : Int) 1 == 1) = true := beq_iff_eq.2 (hx.2 h)
    have ht : turn x = (x >>> 1) ^^^ 3988292384#32 := if_pos h
    have e : Go.bits .xor .u32 ((x.toNat : Int) / (2 : Int)) 3988292384 = ((turn x).toNat : Int) := by
      rw [ht, show (x.toNat : Int) / (2 : Int) = ((x >>> 1).toNat : Int) from half_bv x]; exact xor_bv (x >>> 1) 3988292384#32
    have E := Lib.hid e
    clear hx h ht e
    go_enter Try.func37, Try.ntmps37
    go_wp2
    go_end0
    refine ⟨rfl, ?_, ((Below.refl b w).setCell (p := ⟨b, 0, none⟩) (Nat.le_refl _) _).setCell (p := ⟨b, 0, none⟩) (Nat.le_refl _) _⟩
    rw [E.out]
    exact one_setCell (one_setCell hb)
  · have hd : (Go.bits .and .u32 (x.toNat : Int) 1 == 1) = false := beq_eq_false_iff_ne.2 (fun k => h (hx.1 k))
    have ht : turn x = x >>> 1 := if_neg h
    have e : (x.toNat : Int) / (2 : Int) = ((turn x).toNat : Int) := by rw [ht]; exact half_bv x
    have E := Lib.hid e
    clear hx h ht e
    go_enter Try.func37, Try.ntmps37
    go_wp2
    go_end0
    refine ⟨rfl, ?_, (Below.refl b w).setCell (p := ⟨b, 0, none⟩) (Nat.le_refl _) _⟩
    rw [E.out]
    exact one_setCell hb

theorem feeds_snoc (x : BitVec 32) (l : List Int) (j : Nat) (h : j < l.length) : feeds x (l.take (j + 1)) = feed (feeds x (l.take j)) (rd l j) := by
  unfold feeds
  rw [List.take_succ_eq_append_getElem h, List.foldl_append]
  simp [rd, List.getD_eq_getElem?_getD, h]

theorem not_bv (s : BitVec 32) : Go.bits .xor .u32 IntKind.u32.max (s.toNat : Int) = ((~~~ s).toNat : Int) := by
  rw [show IntKind.u32.max = ((BitVec.allOnes 32).toNat : Int) from by decide, xor_bv, BitVec.allOnes_xor]
theorem in_bv (x : BitVec 32) (c : Int) (h0 : 0 ≤ c) (h1 : c < 4294967296) : Go.bits .xor .u32 (x.toNat : Int) c = ((x ^^^ BitVec.ofInt 32 c).toNat : Int) := by
  have e : c = ((BitVec.ofInt 32 c).toNat : Int) := by rw [BitVec.toNat_ofInt]; omega
  rw [e, xor_bv, ← e]

theorem rd_nat (l : List Int) (j : Nat) : rd l (j : Int) = l.getD j 0 := by simp [rd]

set_option maxHeartbeats 1000000 in
theorem more_calls (s : BitVec 32) (A : Option Addr) (c : Nat) (l : List Int) (w : World) (hr : Kd.C (Kd.int .u8) w A l.length l) (hb : ∀ x ∈ l, 0 ≤ x ∧ x ≤ 255) (hl : l.length ≤ 140737488351232) :
    Calls Try.prog 35 #[w32 s, .slice A l.length c] w fun e w' => e = .returned (w32 (more s l)) ∧ Below w.heap.size w w' := by
  have HR := Lib.hid hr
  have HB := Lib.hid hb
  clear hr hb
  have hmf : ∀ (fn : Fn) (first cap : Array Value) (w : World), (Instr.makeFunc fn first cap).run Try.prog w = .ok (.func fn first cap) w := fun _ _ _ _ => rfl
  have N := Lib.hid (not_bv s)
  go_enter Try.func35, Try.ntmps35
  go_wp2
  go_loopw [14] (fun i wr => ∃ j : Nat, j ≤ l.length ∧ i = .int .i64 j ∧ Hid (wr.heap[w.heap.size]? = some (.cells #[w32 (feeds (~~~ s) (l.take j))] 57 (0, 0))) ∧ Hid (Below w.heap.size w wr)) (fun i _ => l.length - (intOf i).toNat)
  case atStart =>
    refine ⟨0, Nat.zero_le _, rfl, ?_, (Below.refl _ _).alloc (Nat.le_refl _) _⟩
    rw [N.out]; exact blk_new _ _
  case round =>
    obtain ⟨j, hj, rfl, HR1, HB1⟩ := hrel
    by_cases hlt : j < l.length
    · obtain ⟨ad, e, hx⟩ := Kd.at_int HR.out j (by omega) (by omega)
      cases e
      have hcell := pw_cell_below HB1.out hx
      rw [Int.toNat_natCast] at hcell
      clear hx
      have hrc := cell_of_one HR1.out
      have hrf := free_of_one HR1.out
      have hrd := HB.out (rd l j) (by rw [rd_nat]; simp [hlt])
      have hfeed := feeds_snoc (~~~ s) l j hlt
      have HF := Lib.hid hfeed
      have hmod : rd l j % 4294967296 = rd l j := Int.emod_eq_of_lt hrd.1 (by omega)
      have hin : Go.bits .xor .u32 ((feeds (~~~ s) (l.take j)).toNat : Int) (rd l j % 4294967296) = ((feeds (~~~ s) (l.take j) ^^^ BitVec.ofInt 32 (rd l j)).toNat : Int) := by
        rw [hmod]; exact in_bv (feeds (~~~ s) (l.take j)) (rd l j) hrd.1 (by omega)
      have HI := Lib.hid hin
      clear hfeed hin hmod hrd
      go_wp2
      go_loopw [22] (fun i w2 => ∃ k : Nat, k ≤ 8 ∧ i = .int .i64 k ∧ Hid (w2.heap[w.heap.size]? = some (.cells #[w32 (turns k (feeds (~~~ s) (l.take j) ^^^ BitVec.ofInt 32 (rd l j)))] 57 (0, 0))) ∧ Hid (Below w.heap.size w w2)) (fun i _ => 8 - (intOf i).toNat)
      case atStart =>
        refine ⟨0, by omega, rfl, ?_, HB1.out.setCell (p := ⟨w.heap.size, 0, none⟩) (Nat.le_refl _) _⟩
        show (wr.setCell _ _).heap[w.heap.size]? = _
        rw [HI.out]; exact one_setCell HR1.out
      case round =>
        obtain ⟨k, hk, rfl, HR2, HB2⟩ := hrel
        by_cases hk8 : k < 8
        · go_wp2_with (go_at_call 37; refine (turn_calls _ _ _ HR2.out).mono ?_; rintro e w3 ⟨rfl, hr3, hb3⟩; have HR3 := Lib.hid hr3; have HB3 := Lib.hid hb3; clear hr3 hb3)
          go_roundw
          case rel => exact ⟨k + 1, by omega, by go_num, HR3.out, HB2.out.trans HB3.out⟩
          case measure => simp [intOf]; omega
        · obtain rfl : k = 8 := by omega
          go_wp2
          go_roundw
          case rel => exact ⟨j + 1, by omega, by go_num, by rw [HF.out]; exact HR2.out, HB2.out⟩
          case measure => simp [intOf]; omega
    · obtain rfl : j = l.length := by omega
      have hrc := cell_of_one HR1.out
      have hn := not_bv (feeds (~~~ s) l)
      have HN := Lib.hid hn
      clear hn
      go_wp2
      go_ret
      refine ⟨?_, HB1.out⟩
      show Ending.returned (.int .u32 (Go.bits .xor .u32 IntKind.u32.max ((feeds (~~~ s) l).toNat : Int))) = _
      rw [HN.out]; rfl

set_option maxHeartbeats 400000 in
theorem crc_calls (A : Option Addr) (c : Nat) (l : List Int) (w : World) (hr : Kd.C (Kd.int .u8) w A l.length l) (hb : ∀ x ∈ l, 0 ≤ x ∧ x ≤ 255) (hl : l.length ≤ 140737488351232) :
    Calls Try.prog 26 #[.slice A l.length c] w fun e w' => e = .returned (w32 (more 0 l)) ∧ Below w.heap.size w w' := by
  have H := Lib.hid (more_calls 0 A c l w hr hb hl)
  clear hr hb hl
  go_enter Try.func26, Try.ntmps26
  go_wp2_with (go_at_call 35; refine H.out.mono ?_; rintro e w' ⟨rfl, hb⟩; have HB := Lib.hid hb; clear hb)
  go_ret
  exact ⟨rfl, HB.out⟩

/-- What the callers hand over. -/
def okMore (a : Int) (l : List Int) : Bool := decide (0 ≤ a) && decide (a < 4294967296) && decide (l.length ≤ 140737488351232) && l.all fun x => decide (0 ≤ x) && decide (x ≤ 255)
theorem okMore_bytes {a : Int} {l : List Int} (h : okMore a l = true) : ∀ x ∈ l, 0 ≤ x ∧ x ≤ 255 := by
  simp only [okMore, Bool.and_eq_true, decide_eq_true_eq, List.all_eq_true] at h
  exact h.2
theorem okMore_len {a : Int} {l : List Int} (h : okMore a l = true) : l.length ≤ 140737488351232 := by
  simp only [okMore, Bool.and_eq_true, decide_eq_true_eq, List.all_eq_true] at h
  exact h.1.2
theorem okMore_mk {a : Int} {l : List Int} (h0 : 0 ≤ a) (h1 : a < 4294967296) (h2 : l.length ≤ 140737488351232) (h : ∀ x ∈ l, 0 ≤ x ∧ x ≤ 255) : okMore a l = true := by
  simp only [okMore, Bool.and_eq_true, decide_eq_true_eq, List.all_eq_true]
  exact ⟨⟨⟨h0, h1⟩, h2⟩, h⟩
theorem more_ok (a : Int) (A : Option Addr) (c : Nat) (l : List Int) (w : World) (hr : Kd.C (Kd.int .u8) w A l.length l) (h : okMore a l = true) :
    Calls Try.prog 35 #[.int .u32 a, .slice A l.length c] w fun e w' => e = .returned (w32 (more (BitVec.ofInt 32 a) l)) ∧ Below w.heap.size w w' := by
  have hb := okMore_bytes h
  have hl := okMore_len h
  simp only [okMore, Bool.and_eq_true, decide_eq_true_eq] at h
  have e : a = ((BitVec.ofInt 32 a).toNat : Int) := by rw [BitVec.toNat_ofInt]; omega
  rw [show (Value.int .u32 a) = w32 (BitVec.ofInt 32 a) from congrArg (Value.int .u32) e]
  exact more_calls _ A c l w hr hb hl
end Go.Proofs.Ytajlmjmhkhdmdaa.Sums
