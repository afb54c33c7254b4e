/- What a reader of frames tells of bytes: the plain function, and that it does not hang on how the bytes are cut. -/
import Derived.Test.YtajlmjmhkhdmdaaPFx2
import Derived.Test.YtajlmjmhkhdmdaaOctPlain
import Derived.Test.YtajlmjmhkhdmdaaSumsPlain
set_option linter.unusedVariables false
set_option linter.unusedSimpArgs false
namespace Go.Proofs.Ytajlmjmhkhdmdaa.PF
open Go.RowKit Go.Proofs.YtajlmjmhkhdmdaaW.PrintWords Go.Proofs.YtajlmjmhkhdmdaaW.PrintLast Go.Proofs.YtajlmjmhkhdmdaaW.PrintMore
abbrev Fr := S27
def Bytes (l : List Int) : Prop := ∀ x ∈ l, 0 ≤ x ∧ x ≤ 255
theorem Bytes.drop {l : List Int} (h : Bytes l) (n : Nat) : Bytes (l.drop n) := fun x hx => h x (List.mem_of_mem_drop hx)
theorem Bytes.take {l : List Int} (h : Bytes l) (n : Nat) : Bytes (l.take n) := fun x hx => h x (List.mem_of_mem_take hx)
theorem Bytes.append {l m : List Int} (h : Bytes l) (k : Bytes m) : Bytes (l ++ m) := fun x hx => (List.mem_append.1 hx).elim (h x) (k x)
theorem Bytes.left {l m : List Int} (h : Bytes (l ++ m)) : Bytes l := fun x hx => h x (List.mem_append_left _ hx)
theorem Bytes.right {l m : List Int} (h : Bytes (l ++ m)) : Bytes m := fun x hx => h x (List.mem_append_right _ hx)
/-- The sum of bytes. -/
def crc (l : List Int) : Int := ((Sums.more 0 l).toNat : Int)
/-- The number that stands ahead. -/
def len4 (l : List Int) : Int := Oct.nv l 0 4
def takeF : Nat → List Int → List Fr × Bool × List Int
  | 0, l => ([], false, l)
  | k + 1, l =>
    if l.length < 4 then ([], false, l)
    else if len4 l = 0 ∨ 65536 < len4 l then ([], true, [])
    else if (l.length : Int) < len4 l + 8 then ([], false, l)
    else if Oct.nv l (4 + len4 l) 4 ≠ crc ((l.drop 4).take (len4 l).toNat) then ([], true, [])
    else (⟨rd l 4, (l.drop 5).take ((len4 l).toNat - 1)⟩ :: (takeF k (l.drop (8 + (len4 l).toNat))).1, (takeF k (l.drop (8 + (len4 l).toNat))).2)
theorem takeF_more (k : Nat) : ∀ (j : Nat) (l : List Int), l.length < k → l.length < j → takeF k l = takeF j l := by
  induction k with
  | zero => intro j l h; omega
  | succ k ih =>
    intro j l h1 h2
    obtain ⟨j, rfl⟩ : ∃ m, j = m + 1 := ⟨j - 1, by omega⟩
    unfold takeF
    by_cases c1 : l.length < 4
    · rw [if_pos c1, if_pos c1]
    · rw [if_neg c1, if_neg c1]
      have hd : (l.drop (8 + (len4 l).toNat)).length < l.length := by rw [List.length_drop]; omega
      rw [ih j _ (by omega) (by omega)]
/-- All frames of bytes; whether it broke; what is left. -/
def feedF (l : List Int) : List Fr × Bool × List Int := takeF (l.length + 1) l
section
variable {l : List Int}
theorem fd_short (h : l.length < 4) : feedF l = ([], false, l) := by
  unfold feedF takeF
  rw [if_pos h]
theorem fd_bad (h : ¬ l.length < 4) (h1 : len4 l = 0 ∨ 65536 < len4 l) : feedF l = ([], true, []) := by
  unfold feedF takeF
  rw [if_neg h, if_pos h1]
theorem fd_wait (h : ¬ l.length < 4) (h1 : ¬ (len4 l = 0 ∨ 65536 < len4 l)) (h2 : (l.length : Int) < len4 l + 8) : feedF l = ([], false, l) := by
  unfold feedF takeF
  rw [if_neg h, if_neg h1, if_pos h2]
theorem fd_sum (h : ¬ l.length < 4) (h1 : ¬ (len4 l = 0 ∨ 65536 < len4 l)) (h2 : ¬ (l.length : Int) < len4 l + 8) (h3 : Oct.nv l (4 + len4 l) 4 ≠ crc ((l.drop 4).take (len4 l).toNat)) : feedF l = ([], true, []) := by
  unfold feedF takeF
  rw [if_neg h, if_neg h1, if_neg h2, if_pos h3]
theorem fd_ok (h : ¬ l.length < 4) (h1 : ¬ (len4 l = 0 ∨ 65536 < len4 l)) (h2 : ¬ (l.length : Int) < len4 l + 8) (h3 : Oct.nv l (4 + len4 l) 4 = crc ((l.drop 4).take (len4 l).toNat)) :
    feedF l = (⟨rd l 4, (l.drop 5).take ((len4 l).toNat - 1)⟩ :: (feedF (l.drop (8 + (len4 l).toNat))).1, (feedF (l.drop (8 + (len4 l).toNat))).2) := by
  have hd : (l.drop (8 + (len4 l).toNat)).length < l.length := by rw [List.length_drop]; omega
  have e : feedF (l.drop (8 + (len4 l).toNat)) = takeF l.length (l.drop (8 + (len4 l).toNat)) := takeF_more _ _ _ (Nat.lt_succ_self _) hd
  rw [e]
  unfold feedF
  rw [takeF]
  rw [if_neg h, if_neg h1, if_neg h2, if_neg (not_not_intro h3)]
end
theorem nv_append (l m : List Int) (i : Int) (n : Nat) (h0 : 0 ≤ i) (h : i + n ≤ l.length) : Oct.nv (l ++ m) i n = Oct.nv l i n := by
  unfold Oct.nv
  rw [Oct.nok_true h0 h, Oct.nok_true h0 (by rw [List.length_append]; omega)]
  rw [if_pos rfl, if_pos rfl, List.drop_append_of_le_length (by omega), List.take_append_of_le_length (by rw [List.length_drop]; omega)]
theorem rd_append (l m : List Int) (i : Nat) (h : i < l.length) : rd (l ++ m) (i : Int) = rd l (i : Int) := by
  unfold rd
  rw [Int.toNat_natCast, List.getD_eq_getElem?_getD, List.getD_eq_getElem?_getD, List.getElem?_append_left h]
theorem drop_take_append (l m : List Int) (a b : Nat) (h : a + b ≤ l.length) : ((l ++ m).drop a).take b = (l.drop a).take b := by
  rw [List.drop_append_of_le_length (by omega), List.take_append_of_le_length (by rw [List.length_drop]; omega)]
/-- Bytes that come in two parts. -/
theorem feed_append (n : Nat) : ∀ (l m : List Int), l.length ≤ n → Bytes l →
    feedF (l ++ m) = if (feedF l).2.1 = true then feedF l else ((feedF l).1 ++ (feedF ((feedF l).2.2 ++ m)).1, (feedF ((feedF l).2.2 ++ m)).2) := by
  induction n with
  | zero =>
    intro l m h hb
    obtain rfl : l = [] := List.eq_nil_of_length_eq_zero (by omega)
    rw [fd_short (l := []) (by decide)]
    simp
  | succ n ih =>
    intro l m h hb
    by_cases c1 : l.length < 4
    · rw [fd_short c1]
      simp
    by_cases c2 : len4 l = 0 ∨ 65536 < len4 l
    · rw [fd_bad c1 c2]
      have e : len4 (l ++ m) = len4 l := nv_append l m 0 4 (by omega) (by omega)
      rw [fd_bad (l := l ++ m) (by rw [List.length_append]; omega) (by rw [e]; exact c2)]
      rfl
    by_cases c3 : (l.length : Int) < len4 l + 8
    · rw [fd_wait c1 c2 c3]
      simp
    have e : len4 (l ++ m) = len4 l := nv_append l m 0 4 (by omega) (by omega)
    have hr : 0 ≤ len4 l := (Oct.nv_range l hb 0 4).1
    have hla : (l ++ m).length = l.length + m.length := List.length_append
    have hlm : ¬ (l ++ m).length < 4 := by rw [List.length_append]; omega
    have hlm2 : ¬ ((l ++ m).length : Int) < len4 (l ++ m) + 8 := by rw [hla, e]; omega
    have e2 : Oct.nv (l ++ m) (4 + len4 l) 4 = Oct.nv l (4 + len4 l) 4 := nv_append l m _ 4 (by omega) (by omega)
    have e3 : ((l ++ m).drop 4).take (len4 l).toNat = (l.drop 4).take (len4 l).toNat := drop_take_append l m _ _ (by omega)
    by_cases c4 : Oct.nv l (4 + len4 l) 4 = crc ((l.drop 4).take (len4 l).toNat)
    · rw [fd_ok c1 c2 c3 c4]
      rw [fd_ok (l := l ++ m) hlm (by rw [e]; exact c2) hlm2 (by rw [e, e2, e3]; exact c4), e]
      rw [drop_take_append l m _ _ (by omega), show rd (l ++ m) 4 = rd l 4 from rd_append l m 4 (by omega), List.drop_append_of_le_length (by omega)]
      have hi := ih (l.drop (8 + (len4 l).toNat)) m (by rw [List.length_drop]; omega) (hb.drop _)
      rw [hi]
      by_cases hbr : (feedF (l.drop (8 + (len4 l).toNat))).2.1 = true
      · rw [if_pos hbr, if_pos hbr]
      · rw [if_neg hbr, if_neg hbr]
        simp
    · rw [fd_sum c1 c2 c3 c4]
      rw [fd_sum (l := l ++ m) hlm (by rw [e]; exact c2) hlm2 (by rw [e, e2, e3]; exact c4)]
      rfl
/-- What is left is short. -/
theorem feed_left (n : Nat) : ∀ (l : List Int), l.length ≤ n → Bytes l → (feedF l).2.2.length ≤ l.length ∧ (feedF l).2.2.length < 65544 ∧ Bytes (feedF l).2.2 ∧ ((feedF l).2.1 = true → (feedF l).2.2 = []) ∧ ∀ f ∈ (feedF l).1, Bytes f.f1 ∧ (0 ≤ f.f0 ∧ f.f0 ≤ 255) ∧ f.f1.length < 65536 := by
  induction n with
  | zero =>
    intro l h hb
    obtain rfl : l = [] := List.eq_nil_of_length_eq_zero (by omega)
    rw [fd_short (l := []) (by decide)]
    exact ⟨Nat.le_refl _, by decide, hb, (fun h => by cases h), (fun f hf => by cases hf)⟩
  | succ n ih =>
    intro l h hb
    by_cases c1 : l.length < 4
    · rw [fd_short c1]
      exact ⟨Nat.le_refl _, by simp only; omega, hb, (fun h => by cases h), (fun f hf => by cases hf)⟩
    by_cases c2 : len4 l = 0 ∨ 65536 < len4 l
    · rw [fd_bad c1 c2]
      exact ⟨Nat.zero_le _, by simp, (fun x hx => by cases hx), fun _ => rfl, (fun f hf => by cases hf)⟩
    by_cases c3 : (l.length : Int) < len4 l + 8
    · rw [fd_wait c1 c2 c3]
      exact ⟨Nat.le_refl _, by simp only; omega, hb, (fun h => by cases h), (fun f hf => by cases hf)⟩
    have hr : 0 ≤ len4 l := (Oct.nv_range l hb 0 4).1
    by_cases c4 : Oct.nv l (4 + len4 l) 4 = crc ((l.drop 4).take (len4 l).toNat)
    · rw [fd_ok c1 c2 c3 c4]
      obtain ⟨h1, h2, h3, h4, h5⟩ := ih (l.drop (8 + (len4 l).toNat)) (by rw [List.length_drop]; omega) (hb.drop _)
      rw [List.length_drop] at h1
      refine ⟨by simp only; omega, h2, h3, h4, fun f hf => ?_⟩
      rcases List.mem_cons.1 hf with rfl | hf
      · refine ⟨(hb.drop _).take _, hb _ ?_, ?_⟩
        · have hr : rd l ((4 : Nat) : Int) ∈ l := Low.rd_mem (by omega)
          exact hr
        · simp only [List.length_take, List.length_drop]
          omega
      · exact h5 f hf
    · rw [fd_sum c1 c2 c3 c4]
      exact ⟨Nat.zero_le _, by simp, (fun x hx => by cases hx), fun _ => rfl, (fun f hf => by cases hf)⟩
theorem feed_count (n : Nat) : ∀ (l : List Int), l.length ≤ n → (feedF l).1.length ≤ l.length := by
  induction n with
  | zero =>
    intro l h
    rw [fd_short (l := l) (by omega)]
    exact Nat.zero_le _
  | succ n ih =>
    intro l h
    by_cases c1 : l.length < 4
    · rw [fd_short c1]
      exact Nat.zero_le _
    by_cases c2 : len4 l = 0 ∨ 65536 < len4 l
    · rw [fd_bad c1 c2]
      exact Nat.zero_le _
    by_cases c3 : (l.length : Int) < len4 l + 8
    · rw [fd_wait c1 c2 c3]
      exact Nat.zero_le _
    by_cases c4 : Oct.nv l (4 + len4 l) 4 = crc ((l.drop 4).take (len4 l).toNat)
    · rw [fd_ok c1 c2 c3 c4]
      have h1 := ih (l.drop (8 + (len4 l).toNat)) (by rw [List.length_drop]; omega)
      rw [List.length_drop] at h1
      simp only [List.length_cons]
      omega
    · rw [fd_sum c1 c2 c3 c4]
      exact Nat.zero_le _
end Go.Proofs.Ytajlmjmhkhdmdaa.PF
