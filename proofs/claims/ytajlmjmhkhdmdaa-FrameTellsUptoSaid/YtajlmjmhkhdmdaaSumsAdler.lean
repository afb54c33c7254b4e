/- The walks of sums.Adler and of the document's Adler and More: what they compute. No conditions but the arguments' kinds. -/
import Derived.Test.YtajlmjmhkhdmdaaSumsMore
import Derived.Laws.BitsLemmas
set_option linter.unusedVariables false
set_option linter.unusedSimpArgs false
namespace Go.Proofs.Ytajlmjmhkhdmdaa.Sums
open Go.RowKit Go.Proofs.YtajlmjmhkhdmdaaW.PrintWords

def adStep (p : Int × Int) (c : Int) : Int × Int := ((p.1 + c) % 65521, (p.2 + (p.1 + c) % 65521) % 65521)
def adL (l : List Int) : Int × Int := l.foldl adStep (1, 0)
/-- Two sums. -/
def adler (l : List Int) : Int := 65536 * (adL l).2 + (adL l).1

theorem foldl_snoc {α : Type} (f : α → Int → α) (z : α) (l : List Int) (j : Nat) (h : j < l.length) : (l.take (j + 1)).foldl f z = f ((l.take j).foldl f z) (rd l j) := by
  rw [List.take_succ_eq_append_getElem h, List.foldl_append]
  simp [rd, List.getD_eq_getElem?_getD, h]
theorem adL_range (l : List Int) (hb : ∀ x ∈ l, 0 ≤ x ∧ x ≤ 255) : (0 ≤ (adL l).1 ∧ (adL l).1 < 65521) ∧ 0 ≤ (adL l).2 ∧ (adL l).2 < 65521 := by
  have key : ∀ (l : List Int) (p : Int × Int), ((0 ≤ p.1 ∧ p.1 < 65521) ∧ 0 ≤ p.2 ∧ p.2 < 65521) → ((0 ≤ (l.foldl adStep p).1 ∧ (l.foldl adStep p).1 < 65521) ∧ 0 ≤ (l.foldl adStep p).2 ∧ (l.foldl adStep p).2 < 65521) := by
    intro l
    induction l with
    | nil => intro p hp; exact hp
    | cons c l ih => intro p hp; exact ih _ (by unfold adStep; dsimp only; omega)
  exact key l (1, 0) (by decide)
theorem or_join (a b : Int) (ha : 0 ≤ a) (ha1 : a < 65521) (hb : 0 ≤ b) (hb1 : b < 65521) : Go.bits .or .u32 (b * 65536) a = b * 65536 + a :=
  bits_join .u32 32 (by decide) (fun n h0 h1 => by rw [IntKind.wrap_u32]; omega) 16 _ _ (by omega) (by omega) (by omega) ha (by omega) (by omega)

theorem low_bv (x : BitVec 32) : (x.toNat : Int) % 2 = ((x &&& 1#32).toNat : Int) := by
  rw [BitVec.toNat_and, show (1#32).toNat = 1 from rfl, Nat.and_one_is_mod]; omega
theorem bit_bv (c : Int) (k : Nat) (h0 : 0 ≤ c) (h1 : c ≤ 255) : c / 2 ^ k % 2 = (((BitVec.ofInt 32 c >>> k) &&& 1#32).toNat : Int) := by
  have e : (BitVec.ofInt 32 c).toNat = c.toNat := by rw [BitVec.toNat_ofInt]; omega
  rw [BitVec.toNat_and, show (1#32).toNat = 1 from rfl, Nat.and_one_is_mod, BitVec.toNat_ushiftRight, e, Nat.shiftRight_eq_div_pow]
  obtain ⟨n, rfl⟩ := Int.eq_ofNat_of_zero_le h0
  rw [Int.toNat_natCast]
  have : ((n / 2 ^ k % 2 : Nat) : Int) = (n : Int) / 2 ^ k % 2 := by norm_cast
  rw [this]

/-- One bit of a byte, as the document takes it in. -/
def refStep (c : BitVec 32) (k : Nat) (r : BitVec 32) : BitVec 32 := if (c >>> k) &&& 1#32 = r &&& 1#32 then r >>> 1 else (r >>> 1) ^^^ 3988292384#32
def refTurns (c : BitVec 32) : Nat → BitVec 32 → BitVec 32
  | 0, r => r
  | k + 1, r => refStep c k (refTurns c k r)
theorem one_or (x : BitVec 32) : x &&& 1#32 = 0#32 ∨ x &&& 1#32 = 1#32 := by
  have h : (x &&& 1#32).toNat = x.toNat % 2 := by rw [BitVec.toNat_and, show (1#32).toNat = 1 from rfl, Nat.and_one_is_mod]
  rcases Nat.mod_two_eq_zero_or_one x.toNat with e | e
  · left; apply BitVec.eq_of_toNat_eq; rw [h, e]; rfl
  · right; apply BitVec.eq_of_toNat_eq; rw [h, e]; rfl
theorem turns_ref (c r : BitVec 32) (k : Nat) : turns k (r ^^^ c) = refTurns c k r ^^^ (c >>> k) := by
  induction k with
  | zero => simp [turns, refTurns]
  | succ k ih =>
    show turn (turns k (r ^^^ c)) = refStep c k (refTurns c k r) ^^^ (c >>> (k + 1))
    rw [ih]
    unfold refStep
    generalize refTurns c k r = q
    have hs : c >>> (k + 1) = (c >>> k) >>> 1 := by rw [BitVec.shiftRight_add]
    rw [hs]
    generalize c >>> k = d
    have hx : (q ^^^ d) &&& 1#32 = (q &&& 1#32) ^^^ (d &&& 1#32) := by ext i; simp [Bool.and_xor_distrib_right]
    have hh : (q ^^^ d) >>> 1 = (q >>> 1) ^^^ (d >>> 1) := by rw [BitVec.ushiftRight_xor_distrib]
    unfold turn
    rw [hx, hh]
    rcases one_or q with e | e <;> rcases one_or d with f | f <;> rw [e, f] <;> simp <;> ac_rfl
theorem feed_ref (c : Int) (h0 : 0 ≤ c) (h1 : c ≤ 255) (r : BitVec 32) : feed r c = refTurns (BitVec.ofInt 32 c) 8 r := by
  unfold feed
  rw [turns_ref]
  have : BitVec.ofInt 32 c >>> 8 = 0#32 := by
    apply BitVec.eq_of_toNat_eq
    rw [BitVec.toNat_ushiftRight, BitVec.toNat_ofInt, Nat.shiftRight_eq_div_pow]
    simp
    omega
  rw [this]; simp

set_option maxHeartbeats 2000000 in
theorem refMore_calls (s : BitVec 32) (A : Option Addr) (c : Nat) (l : List Int) (w : World) (hr : Kd.C (Kd.int .u8) w A l.length l) (hb : ∀ x ∈ l, 0 ≤ x ∧ x ≤ 255) (hl : l.length ≤ 140737488351232) :
    Calls Try.prog 31 #[w32 s, .slice A l.length c] w fun e w' => e = .returned (w32 (more s l)) ∧ w = w' := by
  have HR := Lib.hid hr
  have HB := Lib.hid hb
  clear hr hb
  have hnot : ∀ s : BitVec 32, 4294967295 - (s.toNat : Int) = ((~~~ s).toNat : Int) := fun s => by rw [BitVec.toNat_not]; have := s.isLt; omega
  have HN := Lib.hid hnot
  have hs1 := s.isLt
  clear hnot
  go_enter Try.func31, Try.ntmps31
  go_wp2
  go_loop [5, 6] (fun a i => ∃ (j : Nat), j ≤ l.length ∧ i = .int .i64 j ∧ a = w32 (feeds (~~~ s) (l.take j))) (fun _ i => l.length - (intOf i).toNat)
  case atStart => exact ⟨0, Nat.zero_le _, rfl, congrArg (Value.int .u32) (HN.out s)⟩
  case round =>
    obtain ⟨j, hj, rfl, rfl⟩ := hrel
    by_cases hlt : j < l.length
    · have hrd := HB.out (rd l j) (by rw [rd_nat]; simp [hlt])
      have hfeed := feeds_snoc (~~~ s) l j hlt
      obtain ⟨ad, e, hx⟩ := Kd.at_int HR.out j (by omega) (by omega)
      cases e
      rw [Int.toNat_natCast] at hx
      rw [feed_ref _ hrd.1 hrd.2] at hfeed
      have hbit := fun k => bit_bv (rd l j) k hrd.1 hrd.2
      have HF := Lib.hid hfeed
      have HBI := Lib.hid hbit
      clear hfeed hbit
      generalize rd l j = ch at hrd hx HF HBI
      generalize feeds (~~~ s) (l.take j) = q at HF
      go_wp2
      go_loop [5, 7] (fun a i => ∃ (k : Nat), k ≤ 8 ∧ i = .int .i64 k ∧ a = w32 (refTurns (BitVec.ofInt 32 ch) k q)) (fun _ i => 8 - (intOf i).toNat)
      case atStart => exact ⟨0, Nat.zero_le _, rfl, rfl⟩
      case round =>
        obtain ⟨k, hk, rfl, rfl⟩ := hrel
        by_cases hk8 : k < 8
        · have hb1 := HBI.out k
          obtain ⟨y, hy⟩ : ∃ y, y = refTurns (BitVec.ofInt 32 ch) k q := ⟨_, rfl⟩
          have HY : Hid (refTurns (BitVec.ofInt 32 ch) (k + 1) q = refStep (BitVec.ofInt 32 ch) k y) := by rw [hy]; rfl
          rw [← hy]
          clear hy
          have hnn : 0 ≤ ch / 2 ^ k := Int.ediv_nonneg hrd.1 (by exact_mod_cast Nat.zero_le _)
          rw [← Int.tmod_eq_emod_of_nonneg hnn] at hb1
          have hy0 : 0 ≤ (y.toNat : Int) := by omega
          have hy1 := y.isLt
          have hlow := low_bv y
          by_cases hc : (BitVec.ofInt 32 ch >>> k) &&& 1#32 = y &&& 1#32
          · have hd : ((ch / 2 ^ k).tmod 2 != (y.toNat : Int) % 2) = false := by rw [hb1, hlow, hc]; simp
            have e : (y.toNat : Int) / (2 : Int) = ((refTurns (BitVec.ofInt 32 ch) (k + 1) q).toNat : Int) := by
              rw [HY.out]; unfold refStep; rw [if_pos hc]; exact half_bv y
            have E := Lib.hid e
            clear hb1 hlow hc e hnn
            go_wp2
            go_round
            case rel => exact ⟨k + 1, by omega, by go_num, congrArg (Value.int .u32) E.out⟩
            case measure => simp [intOf]; omega
          · have hd : ((ch / 2 ^ k).tmod 2 != (y.toNat : Int) % 2) = true := by
              rw [hb1, hlow, bne_iff_ne]; intro h; exact hc (BitVec.eq_of_toNat_eq (by omega))
            have e : Go.bits .xor .u32 ((y.toNat : Int) / (2 : Int)) 3988292384 = ((refTurns (BitVec.ofInt 32 ch) (k + 1) q).toNat : Int) := by
              rw [HY.out]; unfold refStep; rw [if_neg hc, show (y.toNat : Int) / (2 : Int) = ((y >>> 1).toNat : Int) from half_bv y]; exact xor_bv (y >>> 1) 3988292384#32
            have E := Lib.hid e
            clear hb1 hlow hc e hnn
            go_wp2
            go_round
            case rel => exact ⟨k + 1, by omega, by go_num, congrArg (Value.int .u32) E.out⟩
            case measure => simp [intOf]; omega
        · obtain rfl : k = 8 := by omega
          go_wp2
          go_round
          case rel => exact ⟨j + 1, by omega, by go_num, by rw [HF.out]⟩
          case measure => simp [intOf]; omega
    · obtain rfl : j = l.length := by omega
      rw [List.take_length]
      have hq := (feeds (~~~ s) l).isLt
      go_wp2
      go_ret
      exact ⟨congrArg (fun z => Ending.returned (Value.int .u32 z)) (HN.out _), rfl⟩
theorem refMore_ok (a : Int) (A : Option Addr) (c : Nat) (l : List Int) (w : World) (hr : Kd.C (Kd.int .u8) w A l.length l) (h : okMore a l = true) :
    Calls Try.prog 31 #[.int .u32 a, .slice A l.length c] w fun e w' => e = .returned (w32 (more (BitVec.ofInt 32 a) l)) ∧ w = w' := by
  have hb := okMore_bytes h
  have hl := okMore_len h
  simp only [okMore, Bool.and_eq_true, decide_eq_true_eq] at h
  have e : a = ((BitVec.ofInt 32 a).toNat : Int) := by rw [BitVec.toNat_ofInt]; omega
  rw [show (Value.int .u32 a) = w32 (BitVec.ofInt 32 a) from congrArg (Value.int .u32) e]
  exact refMore_calls _ A c l w hr hb hl
end Go.Proofs.Ytajlmjmhkhdmdaa.Sums
