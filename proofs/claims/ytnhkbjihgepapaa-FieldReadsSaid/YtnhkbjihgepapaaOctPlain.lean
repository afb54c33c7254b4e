/- The plain law of the octets: what is put behind bytes is read back where it was put. No program in sight. -/
import Derived.Test.YtnhkbjihgepapaaOctText
set_option linter.unusedVariables false
set_option linter.unusedSimpArgs false
namespace Go.Proofs.Ytnhkbjihgepapaa.Oct
open Go.RowKit Go.Proofs.YtnhkbjihgepapaaW.PrintWords

theorem be_step (v : Int) (n : Nat) : be v (n + 1) = (v / 2 ^ (8 * n) % 256) :: be v n := by
  unfold be
  rw [List.range_succ_eq_map, List.map_cons, List.map_map]
  congr 1
  apply List.map_congr_left
  intro i hi
  have := List.mem_range.1 hi
  show v / 2 ^ (8 * (n + 1 - 1 - (i + 1))) % 256 = _
  rw [show n + 1 - 1 - (i + 1) = n - 1 - i by omega]
theorem be_bytes (v : Int) (n : Nat) : ∀ x ∈ be v n, 0 ≤ x ∧ x ≤ 255 := by
  intro x hx
  unfold be at hx
  obtain ⟨i, _, rfl⟩ := List.mem_map.1 hx
  omega
theorem emod_step (a M : Int) (hM : 0 < M) : a % (M * 256) = M * (a / M % 256) + a % M := by
  have h1 := Int.mul_ediv_add_emod a M
  have h2 := Int.mul_ediv_add_emod (a / M) 256
  have r0 := Int.emod_nonneg a (show M ≠ 0 by omega)
  have r1 := Int.emod_lt_of_pos a hM
  generalize a % M = r at *
  generalize a / M = q at *
  have s0 := Int.emod_nonneg q (show (256 : Int) ≠ 0 by decide)
  have s1 := Int.emod_lt_of_pos q (show (0 : Int) < 256 by decide)
  generalize q % 256 = s at *
  generalize q / 256 = t at *
  have e : a = (M * s + r) + M * 256 * t := by
    rw [← h1, ← h2, Int.mul_add, Int.mul_assoc]; omega
  have hu : M * s + M ≤ M * 256 := by
    have := Int.mul_le_mul_of_nonneg_left (show s + 1 ≤ 256 by omega) (show 0 ≤ M by omega)
    rwa [Int.mul_add, Int.mul_one] at this
  have hl : 0 ≤ M * s := Int.mul_nonneg (by omega) s0
  rw [e, Int.add_mul_emod_self_left, Int.emod_eq_of_lt (by omega) (by omega)]
theorem num_cons (c : Int) (l : List Int) : num (c :: l) = c * 256 ^ l.length + num l := by
  have key : ∀ (l : List Int) (v : Int), l.foldl (fun v c => v * 256 + c) v = v * 256 ^ l.length + num l := by
    intro l
    induction l with
    | nil => intro v; simp [num]
    | cons d l ih =>
      intro v
      show l.foldl _ (v * 256 + d) = v * 256 ^ (l.length + 1) + l.foldl _ (0 * 256 + d)
      rw [ih, ih (0 * 256 + d), Int.pow_succ, Int.add_mul, Int.zero_mul, Int.zero_add, Int.mul_assoc, Int.mul_comm 256, ← Int.mul_assoc, Int.add_assoc]
  show l.foldl _ (0 * 256 + c) = _
  rw [key, Int.zero_mul, Int.zero_add]
theorem num_be (v : Int) (n : Nat) : num (be v n) = v % 2 ^ (8 * n) := by
  induction n with
  | zero => simp [be, num, Int.emod_one]
  | succ n ih =>
    have hM : (0 : Int) < 2 ^ (8 * n) := Int.pow_pos (by decide)
    rw [be_step, num_cons, ih, be_length, show 8 * (n + 1) = 8 * n + 8 by omega, Int.pow_add, show (2 : Int) ^ 8 = 256 by decide, emod_step _ _ hM, show (256 : Int) ^ n = 2 ^ (8 * n) by rw [show (256 : Int) = 2 ^ 8 by decide, ← Int.pow_mul], Int.mul_comm]
theorem nok_put (pre mid post : List Int) : nok (pre ++ mid ++ post) pre.length mid.length = true := by
  unfold nok
  rw [decide_eq_true (by omega), decide_eq_true (by simp only [List.length_append]; omega)]
  rfl
theorem nv_put (pre : List Int) (v : Int) (n : Nat) (post : List Int) (h0 : 0 ≤ v) (h1 : v < 2 ^ (8 * n)) : nv (pre ++ be v n ++ post) pre.length n = v := by
  have h := nok_put pre (be v n) post
  rw [be_length] at h
  unfold nv
  rw [if_pos h, Int.toNat_natCast, List.append_assoc, List.drop_left, List.take_append_of_le_length (by rw [be_length]; omega), List.take_of_length_le (by rw [be_length]; omega), num_be, Int.emod_eq_of_lt h0 h1]
theorem nok_put' (pre : List Int) (v : Int) (n : Nat) (post : List Int) : nok (pre ++ be v n ++ post) pre.length n = true := by
  have h := nok_put pre (be v n) post
  rwa [be_length] at h
theorem bytesOf_str (s : ByteArray) : strOfNums (bytesOf s) = s := by
  unfold strOfNums bytesOf
  rw [List.map_map]
  have : ((fun n : Int => UInt8.ofNat n.toNat) ∘ fun b : UInt8 => (b.toNat : Int)) = id := by
    funext b; simp
  rw [this, List.map_id]
theorem text_put (pre : List Int) (s : ByteArray) (post : List Int) (hs : s.size ≤ 65535) :
    tok (pre ++ be s.size 2 ++ (bytesOf s ++ post)) pre.length = true ∧ txt (pre ++ be s.size 2 ++ (bytesOf s ++ post)) pre.length = bytesOf s ∧ tend (pre ++ be s.size 2 ++ (bytesOf s ++ post)) pre.length = pre.length + 2 + s.size := by
  have hk := nok_put' pre s.size 2 (bytesOf s ++ post)
  have hv := nv_put pre s.size 2 (bytesOf s ++ post) (by omega) (by rw [show (2 : Int) ^ (8 * 2) = 65536 by decide]; omega)
  have ht : tok (pre ++ be s.size 2 ++ (bytesOf s ++ post)) pre.length = true := by
    unfold tok
    rw [hk, hv, decide_eq_true (by simp only [List.length_append, be_length, bytesOf_length]; omega)]
    rfl
  refine ⟨ht, ?_, ?_⟩
  · unfold txt
    rw [if_pos ht, hv, Int.toNat_natCast, Int.toNat_natCast, List.drop_append_of_le_length (by simp only [List.length_append, be_length]; omega), List.drop_of_length_le (by simp only [List.length_append, be_length]; omega), List.nil_append, List.take_append_of_le_length (by rw [bytesOf_length]; omega), List.take_of_length_le (by rw [bytesOf_length]; omega)]
  · unfold tend
    rw [if_pos ht, hv]
theorem bytesOf_bytes (s : ByteArray) : ∀ x ∈ bytesOf s, 0 ≤ x ∧ x ≤ 255 := by
  intro x hx
  unfold bytesOf at hx
  obtain ⟨b, _, rfl⟩ := List.mem_map.1 hx
  have := b.toNat_lt
  omega
theorem bytes_append {l m : List Int} (hl : ∀ x ∈ l, 0 ≤ x ∧ x ≤ 255) (hm : ∀ x ∈ m, 0 ≤ x ∧ x ≤ 255) : ∀ x ∈ l ++ m, 0 ≤ x ∧ x ≤ 255 := fun x hx => (List.mem_append.1 hx).elim (hl x) (hm x)
/-- The bytes that the law puts together. -/
def all4 (b : List Int) (x : Int) : List Int := b ++ be (x / 2048 % 256) 1 ++ be (x / 128 % 65536) 2 ++ be (x / 8 % 4294967296) 4 ++ be x 8
def all6 (b : List Int) (x : Int) (p q : ByteArray) : List Int := addText (addText (all4 b x) p) q
structure Back (b : List Int) (x : Int) (p q : ByteArray) (l : List Int) : Prop where
  k1 : nok l b.length 1 = true
  v1 : nv l b.length 1 = x / 2048 % 256
  k2 : nok l ((b.length : Int) + 1) 2 = true
  v2 : nv l ((b.length : Int) + 1) 2 = x / 128 % 65536
  k3 : nok l ((b.length : Int) + 3) 4 = true
  v3 : nv l ((b.length : Int) + 3) 4 = x / 8 % 4294967296
  k4 : nok l ((b.length : Int) + 7) 8 = true
  v4 : nv l ((b.length : Int) + 7) 8 = x
  t1 : tok l ((b.length : Int) + 15) = true
  t2 : txt l ((b.length : Int) + 15) = bytesOf p
  t3 : tend l ((b.length : Int) + 15) = (b.length : Int) + 17 + p.size
  u1 : tok l ((b.length : Int) + 17 + p.size) = true
  u2 : txt l ((b.length : Int) + 17 + p.size) = bytesOf q
  u3 : tend l ((b.length : Int) + 17 + p.size) = l.length
  pre : l.take b.length = b
  bytes : ∀ y ∈ l, 0 ≤ y ∧ y ≤ 255
end Go.Proofs.Ytnhkbjihgepapaa.Oct
