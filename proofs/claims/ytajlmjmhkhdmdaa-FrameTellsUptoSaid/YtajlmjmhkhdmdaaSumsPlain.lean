/- The plain law of the remainder: a change within four bytes next to each other changes it; it is linear. No program in sight. -/
import Derived.Test.YtajlmjmhkhdmdaaSumsMore
set_option linter.unusedVariables false
set_option linter.unusedSimpArgs false
namespace Go.Proofs.Ytajlmjmhkhdmdaa.Sums
open Go.RowKit Go.Proofs.YtajlmjmhkhdmdaaW.PrintWords

theorem low_one (x : BitVec 32) : x &&& 1#32 = 0#32 ∨ x &&& 1#32 = 1#32 := by
  have h : (x &&& 1#32).toNat = x.toNat % 2 := by rw [BitVec.toNat_and, show (1#32).toNat = 1 from rfl, Nat.and_one_is_mod]
  rcases Nat.mod_two_eq_zero_or_one x.toNat with e | e
  · left; apply BitVec.eq_of_toNat_eq; rw [h, e]; rfl
  · right; apply BitVec.eq_of_toNat_eq; rw [h, e]; rfl
theorem turn_xor (x y : BitVec 32) : turn (x ^^^ y) = turn x ^^^ turn y := by
  have hx : (x ^^^ y) &&& 1#32 = (x &&& 1#32) ^^^ (y &&& 1#32) := by ext i; simp [Bool.and_xor_distrib_right]
  have hh : (x ^^^ y) >>> 1 = (x >>> 1) ^^^ (y >>> 1) := by rw [BitVec.ushiftRight_xor_distrib]
  unfold turn
  rw [hx, hh]
  generalize x >>> 1 = a
  generalize y >>> 1 = b
  rcases low_one x with e | e <;> rcases low_one y with f | f <;> rw [e, f]
  · simp
  · simp; ac_rfl
  · simp; ac_rfl
  · simp
    rw [show (a ^^^ 3988292384#32) ^^^ (b ^^^ 3988292384#32) = (a ^^^ b) ^^^ (3988292384#32 ^^^ 3988292384#32) from by ac_rfl, BitVec.xor_self, BitVec.xor_zero]
theorem turns_xor (n : Nat) (x y : BitVec 32) : turns n (x ^^^ y) = turns n x ^^^ turns n y := by
  induction n with
  | zero => rfl
  | succ n ih => show turn _ = turn _ ^^^ turn _; rw [ih, turn_xor]
theorem turn_zero {x : BitVec 32} (h : turn x = 0#32) : x = 0#32 := by
  have hb : x.toNat = 2 * (x >>> 1).toNat + (x &&& 1#32).toNat := by
    rw [BitVec.toNat_and, show (1#32).toNat = 1 from rfl, Nat.and_one_is_mod, BitVec.toNat_ushiftRight, Nat.shiftRight_eq_div_pow]; omega
  unfold turn at h
  rcases low_one x with e | e
  · rw [e, if_neg (by decide)] at h
    rw [h, e] at hb
    exact BitVec.eq_of_toNat_eq (by simpa using hb)
  · rw [e, if_pos rfl] at h
    have h2 : (x >>> 1) = 3988292384#32 := by
      have := congrArg (fun z => z ^^^ 3988292384#32) h
      simpa [BitVec.xor_assoc] using this
    have h3 := congrArg BitVec.toNat h2
    rw [BitVec.toNat_ushiftRight, Nat.shiftRight_eq_div_pow] at h3
    have := x.isLt
    have h4 : (3988292384#32).toNat = 3988292384 := rfl
    omega
theorem turns_zero {n : Nat} {x : BitVec 32} (h : turns n x = 0#32) : x = 0#32 := by
  induction n with
  | zero => exact h
  | succ n ih => exact ih (turn_zero h)
theorem xor_zero_iff (x y : BitVec 32) : x ^^^ y = 0#32 ↔ x = y := by
  constructor
  · intro h
    have := congrArg (fun z => z ^^^ y) h
    simpa [BitVec.xor_assoc] using this
  · rintro rfl; exact BitVec.xor_self
theorem turns_inj {n : Nat} {x y : BitVec 32} (h : turns n x = turns n y) : x = y := by
  rw [← xor_zero_iff] at h ⊢
  rw [← turns_xor] at h
  exact turns_zero h
theorem feeds_append (r : BitVec 32) (l m : List Int) : feeds r (l ++ m) = feeds (feeds r l) m := by unfold feeds; rw [List.foldl_append]
theorem feeds_inj (l : List Int) {r s : BitVec 32} (h : feeds r l = feeds s l) : r = s := by
  induction l generalizing r s with
  | nil => exact h
  | cons c l ih =>
    have h2 : feed r c = feed s c := ih h
    have h3 := turns_inj h2
    have := congrArg (fun z => z ^^^ BitVec.ofInt 32 c) h3
    simpa [BitVec.xor_assoc] using this
/-- Bytes as a number, the first lowest. -/
def word : List Int → BitVec 32
  | [] => 0#32
  | c :: l => BitVec.ofInt 32 c ^^^ (word l <<< 8)
theorem turns_shl (n : Nat) (y : BitVec 32) (h : y.toNat * 2 ^ n < 4294967296) : turns n (y <<< n) = y := by
  induction n with
  | zero => simp [turns]
  | succ n ih =>
    have hp : y.toNat * 2 ^ (n + 1) = 2 * (y.toNat * 2 ^ n) := by rw [Nat.pow_succ]; ac_rfl
    have ht : turns (n + 1) (y <<< (n + 1)) = turns n (turn (y <<< (n + 1))) := by
      have key : ∀ m z, turns (m + 1) z = turns m (turn z) := by
        intro m
        induction m with
        | zero => intro z; rfl
        | succ m ihm => intro z; show turn (turns (m + 1) z) = turn (turns m (turn z)); rw [ihm]
      exact key _ _
    have e : (y <<< (n + 1)).toNat = 2 * (y.toNat * 2 ^ n) := by
      rw [BitVec.toNat_shiftLeft, Nat.shiftLeft_eq, hp, Nat.mod_eq_of_lt (by omega)]
    have hlow : (y <<< (n + 1)) &&& 1#32 = 0#32 := by
      apply BitVec.eq_of_toNat_eq
      rw [BitVec.toNat_and, show (1#32).toNat = 1 from rfl, Nat.and_one_is_mod, e]
      simp
    have hsh : turn (y <<< (n + 1)) = y <<< n := by
      unfold turn
      rw [hlow, if_neg (by decide)]
      apply BitVec.eq_of_toNat_eq
      rw [BitVec.toNat_ushiftRight, Nat.shiftRight_eq_div_pow, e, BitVec.toNat_shiftLeft, Nat.shiftLeft_eq, Nat.mod_eq_of_lt (by omega)]
      omega
    rw [ht, hsh]
    exact ih (by omega)
theorem word_lt (l : List Int) (hb : ∀ x ∈ l, 0 ≤ x ∧ x ≤ 255) (n : Nat) (hn : l.length ≤ n) (h4 : n ≤ 4) : (word l).toNat < 256 ^ n := by
  induction l generalizing n with
  | nil => simp [word]; exact Nat.pos_of_ne_zero (by simp)
  | cons c l ih =>
    obtain ⟨m, rfl⟩ : ∃ m, n = m + 1 := ⟨n - 1, by simp at hn; omega⟩
    have h1 := ih (fun x hx => hb x (List.mem_cons_of_mem _ hx)) m (by simpa using hn) (by omega)
    have hc := hb c (List.mem_cons_self ..)
    have e : (BitVec.ofInt 32 c).toNat = c.toNat := by rw [BitVec.toNat_ofInt]; omega
    show (BitVec.ofInt 32 c ^^^ (word l <<< 8)).toNat < _
    rw [BitVec.toNat_xor, e, BitVec.toNat_shiftLeft, Nat.shiftLeft_eq]
    have hp : 256 ^ (m + 1) = 256 ^ m * 256 := Nat.pow_succ ..
    have h2 : (word l).toNat * 2 ^ 8 % 2 ^ 32 < 256 ^ (m + 1) := Nat.lt_of_le_of_lt (Nat.mod_le _ _) (by omega)
    have h3 : c.toNat < 256 ^ (m + 1) := by
      have : 1 ≤ 256 ^ m := Nat.one_le_pow _ _ (by decide)
      omega
    have hpw : 256 ^ (m + 1) = 2 ^ (8 * (m + 1)) := by rw [Nat.pow_mul]
    rw [hpw] at h2 h3 ⊢
    exact Nat.xor_lt_two_pow h3 h2
theorem feeds_word (l : List Int) (hb : ∀ x ∈ l, 0 ≤ x ∧ x ≤ 255) (h4 : l.length ≤ 4) (r : BitVec 32) : feeds r l = turns (8 * l.length) (r ^^^ word l) := by
  have tadd : ∀ a b x, turns (a + b) x = turns a (turns b x) := by
    intro a b x
    induction a with
    | zero => simp [turns]
    | succ a ih => rw [Nat.succ_add]; show turn _ = turn _; rw [ih]
  induction l generalizing r with
  | nil => simp [feeds, turns, word]
  | cons c l ih =>
    have hl : l.length ≤ 3 := by simpa using h4
    have hb' : ∀ x ∈ l, 0 ≤ x ∧ x ≤ 255 := fun x hx => hb x (List.mem_cons_of_mem _ hx)
    have hw := word_lt l hb' 3 hl (by decide)
    show feeds (feed r c) l = _
    rw [ih hb' (by omega)]
    have e : feed r c ^^^ word l = turns 8 (r ^^^ word (c :: l)) := by
      show turns 8 (r ^^^ BitVec.ofInt 32 c) ^^^ word l = turns 8 (r ^^^ (BitVec.ofInt 32 c ^^^ (word l <<< 8)))
      rw [← BitVec.xor_assoc, turns_xor 8 (r ^^^ BitVec.ofInt 32 c), turns_shl 8 (word l) (by omega)]
    rw [e, ← tadd]
    rfl
theorem word_inj (l m : List Int) (hl : ∀ x ∈ l, 0 ≤ x ∧ x ≤ 255) (hm : ∀ x ∈ m, 0 ≤ x ∧ x ≤ 255) (he : l.length = m.length) (h4 : l.length ≤ 4) (h : word l = word m) : l = m := by
  induction l generalizing m with
  | nil => cases m with
    | nil => rfl
    | cons _ _ => simp at he
  | cons c l ih => cases m with
    | nil => simp at he
    | cons d m =>
      have h3 : l.length ≤ 3 := by simpa using h4
      have h3' : m.length ≤ 3 := by simp at he; omega
      have hl' : ∀ x ∈ l, 0 ≤ x ∧ x ≤ 255 := fun x hx => hl x (List.mem_cons_of_mem _ hx)
      have hm' : ∀ x ∈ m, 0 ≤ x ∧ x ≤ 255 := fun x hx => hm x (List.mem_cons_of_mem _ hx)
      have w1 := word_lt l hl' 3 h3 (by decide)
      have w2 := word_lt m hm' 3 h3' (by decide)
      have hc := hl c (List.mem_cons_self ..)
      have hd := hm d (List.mem_cons_self ..)
      have key : ∀ (x : Int) (z : BitVec 32), 0 ≤ x → x ≤ 255 → z.toNat < 256 ^ 3 → (BitVec.ofInt 32 x ^^^ (z <<< 8)).toNat = x.toNat + 256 * z.toNat := by
        intro x z h0 h1 hz
        have e : (BitVec.ofInt 32 x).toNat = x.toNat := by rw [BitVec.toNat_ofInt]; omega
        rw [BitVec.toNat_xor, e, BitVec.toNat_shiftLeft, Nat.shiftLeft_eq, Nat.mod_eq_of_lt (by omega)]
        have hor := Nat.two_pow_add_eq_or_of_lt (i := 8) (b := x.toNat) (by omega) z.toNat
        have hxor : x.toNat ^^^ z.toNat * 2 ^ 8 = x.toNat ||| z.toNat * 2 ^ 8 := by
          apply Nat.eq_of_testBit_eq
          intro i
          rw [Nat.testBit_xor, Nat.testBit_or]
          by_cases hi : i < 8
          · have : (z.toNat * 2 ^ 8).testBit i = false := by
              rw [Nat.mul_comm, Nat.testBit_two_pow_mul]; simp; intro h; omega
            rw [this]; simp
          · have : x.toNat.testBit i = false := Nat.testBit_lt_two_pow (Nat.lt_of_lt_of_le (show x.toNat < 2 ^ 8 by omega) (Nat.pow_le_pow_right (by decide) (by omega)))
            rw [this]; simp
        rw [hxor, Nat.or_comm, Nat.mul_comm z.toNat, ← hor]; omega
      have hk : (word (c :: l)).toNat = (word (d :: m)).toNat := by rw [h]
      rw [show word (c :: l) = BitVec.ofInt 32 c ^^^ (word l <<< 8) from rfl, show word (d :: m) = BitVec.ofInt 32 d ^^^ (word m <<< 8) from rfl, key c _ hc.1 hc.2 w1, key d _ hd.1 hd.2 w2] at hk
      have h5 : c = d := by omega
      have h6 : word l = word m := BitVec.eq_of_toNat_eq (by omega)
      rw [h5, ih m hl' hm' (by simpa using he) (by omega) h6]
/-- A change within four bytes next to each other changes the sum. -/
theorem more_burst (s : BitVec 32) (p l m q : List Int) (hl : ∀ x ∈ l, 0 ≤ x ∧ x ≤ 255) (hm : ∀ x ∈ m, 0 ≤ x ∧ x ≤ 255) (he : l.length = m.length) (h4 : l.length ≤ 4)
    (h : more s (p ++ (l ++ q)) = more s (p ++ (m ++ q))) : l = m := by
  unfold more at h
  have h1 : feeds (~~~ s) (p ++ (l ++ q)) = feeds (~~~ s) (p ++ (m ++ q)) := by
    have := congrArg (fun z => ~~~ z) h
    simpa using this
  simp only [feeds_append] at h1
  have h2 := feeds_inj q h1
  rw [feeds_word l hl h4, feeds_word m hm (by omega), ← he] at h2
  have h3 := turns_inj h2
  have h4' : word l = word m := by
    have := congrArg (fun z => feeds (~~~ s) p ^^^ z) h3
    simpa [← BitVec.xor_assoc] using this
  exact word_inj l m hl hm he h4 h4'
/-- Sums go on behind one another. -/
theorem more_join (s : BitVec 32) (l m : List Int) : more (more s l) m = more s (l ++ m) := by
  unfold more; rw [feeds_append]; simp
/-- Three lists held against each other bit by bit. -/
def xor3 : List Int → List Int → List Int → List Int
  | a :: l, b :: m, c :: n => Go.bits .xor .u8 (Go.bits .xor .u8 a b) c :: xor3 l m n
  | _, _, _ => []
theorem xor_byte (a b : Int) (ha : 0 ≤ a ∧ a ≤ 255) (hb : 0 ≤ b ∧ b ≤ 255) : BitVec.ofInt 32 (Go.bits .xor .u8 a b) = BitVec.ofInt 32 a ^^^ BitVec.ofInt 32 b ∧ 0 ≤ Go.bits .xor .u8 a b ∧ Go.bits .xor .u8 a b ≤ 255 := by
  have e : Go.bits .xor .u8 a b = IntKind.u8.wrap ((BitVec.ofInt 8 a ^^^ BitVec.ofInt 8 b).toNat) := rfl
  have lt := (BitVec.ofInt 8 a ^^^ BitVec.ofInt 8 b).isLt
  rw [e, IntKind.wrap_u8]
  have ea : (BitVec.ofInt 8 a).toNat = a.toNat := by rw [BitVec.toNat_ofInt]; omega
  have eb : (BitVec.ofInt 8 b).toNat = b.toNat := by rw [BitVec.toNat_ofInt]; omega
  have ea2 : (BitVec.ofInt 32 a).toNat = a.toNat := by rw [BitVec.toNat_ofInt]; omega
  have eb2 : (BitVec.ofInt 32 b).toNat = b.toNat := by rw [BitVec.toNat_ofInt]; omega
  have ex : (BitVec.ofInt 8 a ^^^ BitVec.ofInt 8 b).toNat = a.toNat ^^^ b.toNat := by rw [BitVec.toNat_xor, ea, eb]
  rw [ex] at lt ⊢
  refine ⟨?_, by omega, by omega⟩
  apply BitVec.eq_of_toNat_eq
  rw [BitVec.toNat_xor, ea2, eb2, BitVec.toNat_ofInt]
  omega
theorem feeds_xor3 (l m n : List Int) (hl : ∀ x ∈ l, 0 ≤ x ∧ x ≤ 255) (hm : ∀ x ∈ m, 0 ≤ x ∧ x ≤ 255) (hn : ∀ x ∈ n, 0 ≤ x ∧ x ≤ 255) (h1 : m.length = l.length) (h2 : n.length = l.length) (r s t : BitVec 32) :
    feeds (r ^^^ s ^^^ t) (xor3 l m n) = feeds r l ^^^ feeds s m ^^^ feeds t n := by
  induction l generalizing m n r s t with
  | nil =>
    obtain rfl := List.eq_nil_of_length_eq_zero h1
    obtain rfl := List.eq_nil_of_length_eq_zero h2
    rfl
  | cons a l ih => cases m with
    | nil => simp at h1
    | cons b m => cases n with
      | nil => simp at h2
      | cons c n =>
        have ha := hl a (List.mem_cons_self ..)
        have hb := hm b (List.mem_cons_self ..)
        have hc := hn c (List.mem_cons_self ..)
        obtain ⟨e1, r1⟩ := xor_byte a b ha hb
        obtain ⟨e2, r2⟩ := xor_byte _ c r1 hc
        show feeds (feed (r ^^^ s ^^^ t) (Go.bits .xor .u8 (Go.bits .xor .u8 a b) c)) (xor3 l m n) = feeds (feed r a) l ^^^ feeds (feed s b) m ^^^ feeds (feed t c) n
        rw [← ih m n (fun x hx => hl x (List.mem_cons_of_mem _ hx)) (fun x hx => hm x (List.mem_cons_of_mem _ hx)) (fun x hx => hn x (List.mem_cons_of_mem _ hx)) (by simpa using h1) (by simpa using h2)]
        congr 1
        unfold feed
        rw [e2, e1, ← turns_xor, ← turns_xor]
        congr 1
        ac_rfl
theorem more_xor3 (l m n : List Int) (hl : ∀ x ∈ l, 0 ≤ x ∧ x ≤ 255) (hm : ∀ x ∈ m, 0 ≤ x ∧ x ≤ 255) (hn : ∀ x ∈ n, 0 ≤ x ∧ x ≤ 255) (h1 : m.length = l.length) (h2 : n.length = l.length) :
    more 0 (xor3 l m n) = more 0 l ^^^ more 0 m ^^^ more 0 n := by
  unfold more
  have h := feeds_xor3 l m n hl hm hn h1 h2 (~~~ 0) (~~~ 0) (~~~ 0)
  rw [BitVec.xor_self, BitVec.zero_xor] at h
  rw [h]
  generalize feeds (~~~ 0) l = a
  generalize feeds (~~~ 0) m = b
  generalize feeds (~~~ 0) n = c
  ext i
  simp
end Go.Proofs.Ytajlmjmhkhdmdaa.Sums
