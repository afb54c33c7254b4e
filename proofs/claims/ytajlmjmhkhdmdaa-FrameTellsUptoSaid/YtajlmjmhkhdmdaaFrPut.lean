/- A frame's bytes: put, and taken off again; a turned bit. -/
import Derived.Test.YtajlmjmhkhdmdaaFrPlain
import Derived.Test.YtajlmjmhkhdmdaaPFx1
set_option linter.unusedVariables false
set_option linter.unusedSimpArgs false
namespace Go.Proofs.Ytajlmjmhkhdmdaa.PF
open Go.RowKit Go.Proofs.YtajlmjmhkhdmdaaW.PrintWords Go.Proofs.YtajlmjmhkhdmdaaW.PrintLast Go.Proofs.YtajlmjmhkhdmdaaW.PrintMore
open Oct (be be_length nv nok)
/-- A frame's inner bytes. -/
def innerF (k : Int) (l : List Int) : List Int := be k 1 ++ l
def putF (k : Int) (l : List Int) : List Int := be (1 + l.length) 4 ++ innerF k l ++ be (crc (innerF k l)) 4
theorem crc_range (l : List Int) : 0 ≤ crc l ∧ crc l < 4294967296 := by
  unfold crc
  have := (Sums.more 0 l).isLt
  omega
theorem be1 (k : Int) (h : 0 ≤ k ∧ k ≤ 255) : be k 1 = [k] := by
  unfold be
  simp
  omega
theorem inner_length (k : Int) (l : List Int) : (innerF k l).length = 1 + l.length := by
  unfold innerF
  rw [List.length_append, be_length]
theorem putF_length (k : Int) (l : List Int) : (putF k l).length = l.length + 9 := by
  unfold putF
  rw [List.length_append, List.length_append, be_length, be_length, inner_length]
  omega
theorem inner_bytes {k : Int} {l : List Int} (hl : Bytes l) : Bytes (innerF k l) := Bytes.append (Oct.be_bytes k 1) hl
theorem putF_bytes {k : Int} {l : List Int} (hl : Bytes l) : Bytes (putF k l) := Bytes.append (Bytes.append (Oct.be_bytes _ 4) (inner_bytes hl)) (Oct.be_bytes _ 4)
/-- Four bytes that tell a length, as many, and four behind. -/
theorem feed_form (n : Nat) (mid : List Int) (s : Int) (r : List Int) (hm : mid.length = n) (h1 : 1 ≤ n) (h2 : n ≤ 65536) (hs : 0 ≤ s ∧ s < 4294967296) :
    feedF (be n 4 ++ mid ++ be s 4 ++ r) = if s = crc mid then (⟨rd mid 0, mid.drop 1⟩ :: (feedF r).1, (feedF r).2) else ([], true, []) := by
  have e0 : be (n : Int) 4 ++ mid ++ be s 4 ++ r = [] ++ be (n : Int) 4 ++ (mid ++ be s 4 ++ r) := by simp
  have hlen : (be (n : Int) 4 ++ mid ++ be s 4 ++ r).length = n + 8 + r.length := by simp only [List.length_append, be_length, hm]; omega
  have hn : len4 (be (n : Int) 4 ++ mid ++ be s 4 ++ r) = n := by
    unfold len4
    rw [e0]
    exact Oct.nv_put [] n 4 _ (by omega) (by omega)
  have d4 : (be (n : Int) 4 ++ mid ++ be s 4 ++ r).drop 4 = mid ++ be s 4 ++ r := by
    rw [List.append_assoc, List.append_assoc, List.drop_append_of_le_length (Nat.le_of_eq (be_length _ _).symm), List.drop_eq_nil_of_le (Nat.le_of_eq (be_length _ _))]
    simp
  have hv : nv (be (n : Int) 4 ++ mid ++ be s 4 ++ r) (4 + (n : Int)) 4 = s := by
    have h := Oct.nv_put (be (n : Int) 4 ++ mid) s 4 r hs.1 (by have := hs.2; omega)
    rw [List.length_append, be_length, hm] at h
    rw [show (4 + (n : Int)) = ((4 + n : Nat) : Int) by omega]
    exact h
  have hd8 : (be (n : Int) 4 ++ mid ++ be s 4 ++ r).drop (8 + n) = r := by
    rw [List.drop_append_of_le_length (by simp only [List.length_append, be_length, hm]; omega), List.drop_eq_nil_of_le (by simp only [List.length_append, be_length, hm]; omega), List.nil_append]
  have hseg : ((be (n : Int) 4 ++ mid ++ be s 4 ++ r).drop 4).take n = mid := by
    rw [d4, List.append_assoc, List.take_append_of_le_length (by omega), List.take_of_length_le (by omega)]
  have c1 : ¬ (be (n : Int) 4 ++ mid ++ be s 4 ++ r).length < 4 := by omega
  have c2 : ¬ (len4 (be (n : Int) 4 ++ mid ++ be s 4 ++ r) = 0 ∨ 65536 < len4 (be (n : Int) 4 ++ mid ++ be s 4 ++ r)) := by rw [hn]; omega
  have c3 : ¬ ((be (n : Int) 4 ++ mid ++ be s 4 ++ r).length : Int) < len4 (be (n : Int) 4 ++ mid ++ be s 4 ++ r) + 8 := by rw [hn, hlen]; omega
  by_cases h : s = crc mid
  · rw [if_pos h]
    rw [fd_ok c1 c2 c3 (by rw [hn, hv, Int.toNat_natCast, hseg]; exact h), hn, Int.toNat_natCast, hd8]
    have e1 : rd (be (n : Int) 4 ++ mid ++ be s 4 ++ r) 4 = rd mid 0 := by
      have h4 : ∀ l : List Int, rd l 4 = rd (l.drop 4) 0 := fun l => by unfold rd; simp [List.getD_eq_getElem?_getD]
      rw [h4, d4]
      cases mid with
      | nil => simp at hm; omega
      | cons a t => rfl
    have e2 : ((be (n : Int) 4 ++ mid ++ be s 4 ++ r).drop 5).take (n - 1) = mid.drop 1 := by
      have h5 : ∀ l : List Int, l.drop 5 = (l.drop 4).drop 1 := fun l => by rw [List.drop_drop]
      rw [h5, d4]
      cases mid with
      | nil => simp at hm; omega
      | cons a t =>
        simp only [List.length_cons] at hm
        simp only [List.cons_append, List.drop_succ_cons, List.drop_zero, List.append_assoc]
        rw [List.take_append_of_le_length (by omega), List.take_of_length_le (by omega)]
    rw [e1, e2]
  · rw [if_neg h]
    exact fd_sum c1 c2 c3 (by rw [hn, hv, Int.toNat_natCast, hseg]; exact h)
theorem feed_put (k : Int) (l r : List Int) (hk : 0 ≤ k ∧ k ≤ 255) (hl : l.length < 65536) : feedF (putF k l ++ r) = (⟨k, l⟩ :: (feedF r).1, (feedF r).2) := by
  have h := feed_form (1 + l.length) (innerF k l) (crc (innerF k l)) r (inner_length k l) (by omega) (by omega) (crc_range _)
  rw [if_pos rfl] at h
  have e : ((1 + l.length : Nat) : Int) = 1 + (l.length : Int) := by omega
  rw [e] at h
  unfold putF
  rw [h]
  unfold innerF
  rw [be1 k hk]
  rfl
theorem add32_f (m : List Int) (v : Int) (h0 : 0 ≤ v) (h1 : v < 4294967296) (h2 : m.length ≤ 140737488355320) : octets_Add32.f m v = some (m ++ be v 4) := by
  unfold octets_Add32.f octets_add.f
  rw [IntKind.wrap_u64, Int.emod_eq_of_lt h0 (by omega), if_pos (Oct.okAdd_mk h0 (by omega) (by omega) (by omega) h2)]
  rfl
theorem add8_f (m : List Int) (v : Int) (h0 : 0 ≤ v) (h1 : v < 256) (h2 : m.length ≤ 140737488355320) : octets_Add8.f m v = some (m ++ be v 1) := by
  unfold octets_Add8.f octets_add.f
  rw [IntKind.wrap_u64, Int.emod_eq_of_lt h0 (by omega), if_pos (Oct.okAdd_mk h0 (by omega) (by omega) (by omega) h2)]
  rfl
theorem crc_f (l : List Int) (hl : Bytes l) (h2 : l.length ≤ 140737488351232) : sums_Crc.f l = some (crc l) := by
  unfold sums_Crc.f
  rw [if_pos (Sums.okMore_mk (by omega) (by omega) h2 hl)]
  rfl
theorem drop_be4 (v : Int) (l : List Int) : (be v 4 ++ l).drop 4 = l := by
  rw [List.drop_append_of_le_length (Nat.le_of_eq (be_length _ _).symm), List.drop_eq_nil_of_le (Nat.le_of_eq (be_length _ _)), List.nil_append]
/-- What Put answers. -/
theorem put_f (k : Int) (l : List Int) (hk : 0 ≤ k ∧ k ≤ 255) (hl : Bytes l) (hlen : l.length ≤ 140737488351232) : frame_Put.f k l = some (if 65536 ≤ l.length then ([], 3) else (putF k l, 0)) := by
  unfold frame_Put.f
  by_cases h : 65536 ≤ l.length
  · rw [if_pos (by omega), if_pos h]
  · rw [if_neg (by omega), if_neg h]
    have e1 : wrap64 (1 + (l.length : Int)) % 4294967296 = 1 + (l.length : Int) := by unfold wrap64; omega
    have hb4 : (be (1 + (l.length : Int)) 4).length = 4 := be_length _ _
    have hb1 : (be (1 + (l.length : Int)) 4 ++ be k 1).length = 5 := by rw [List.length_append, be_length, be_length]
    have hc := crc_f (innerF k l) (inner_bytes hl) (by rw [inner_length]; omega)
    have hr := crc_range (innerF k l)
    have ha : be (1 + (l.length : Int)) 4 ++ be k 1 ++ l = be (1 + (l.length : Int)) 4 ++ innerF k l := by unfold innerF; rw [List.append_assoc]
    have hi := inner_length k l
    have hal : (be (1 + (l.length : Int)) 4 ++ innerF k l).length = 5 + l.length := by rw [List.length_append, hb4, hi]; omega
    have h32 := add32_f (be (1 + (l.length : Int)) 4 ++ innerF k l) (crc (innerF k l)) hr.1 hr.2 (by rw [hal]; omega)
    rw [e1, add32_f [] _ (by omega) (by omega) (Nat.zero_le _), Option.bind_some, List.nil_append, add8_f _ _ hk.1 (by omega) (by rw [hb4]; omega), Option.bind_some]
    rw [if_pos (by rw [hb1]; omega), Option.bind_some, ha, if_pos (by rw [hal]; omega), drop_be4, hc, Option.bind_some, h32, Option.bind_some]
    rfl
end Go.Proofs.Ytajlmjmhkhdmdaa.PF
