/- Tree: what the program's functions tell, in plain Lean. -/
import Derived.Test.YtcnobkcddgcifaaTreeB
import Derived.Test.YtcnobkcddgcifaaPTx6
import Derived.Test.YtcnobkcddgcifaaPTx14
import Derived.Test.YtcnobkcddgcifaaPTx13
set_option linter.unusedVariables false
set_option linter.unusedSimpArgs false
namespace Go.Proofs.Ytcnobkcddgcifaa.PT
open Go.RowKit Go.Proofs.YtcnobkcddgcifaaW.PrintWords Go.Proofs.YtcnobkcddgcifaaW.PrintLast Go.Proofs.YtcnobkcddgcifaaW.PrintMore Go.Proofs.Ytcnobkcddgcifaa.Gen Go.Proofs.Ytcnobkcddgcifaa.EvK
theorem toL_inj {a b : ByteArray} (h : a.toList = b.toList) : a = b := by
  rw [Lib.toList_data, Lib.toList_data] at h
  cases a
  cases b
  congr 1
  exact Array.toList_inj.1 h
theorem isName_iff (s : ByteArray) (x : S57) : isName s x = true ↔ x.f0 = s := by
  unfold isName
  rw [beq_iff_eq]
  exact ⟨toL_inj, fun h => by rw [h]⟩
/-! ### where an account stands -/
theorem found_at {l : List S57} {s : ByteArray} (h : (findA l s).2 = true) : ∃ p, ∃ hp : p < l.length, findA l s = ((p : Int), true) ∧ l[p].f0 = s := by
  have ha : l.any (isName s) = true := h
  have hlt : l.findIdx (isName s) < l.length := List.findIdx_lt_length.2 (by simpa using ha)
  refine ⟨l.findIdx (isName s), hlt, ?_, (isName_iff s _).1 List.findIdx_getElem⟩
  unfold findA idxOf
  rw [if_pos ha, ha]
  congr 1
  omega
theorem found_mem {l : List S57} {s : ByteArray} : (findA l s).2 = true ↔ ∃ j, ∃ hj : j < l.length, l[j].f0 = s := by
  constructor
  · intro h
    obtain ⟨p, hp, _, h2⟩ := found_at h
    exact ⟨p, hp, h2⟩
  · rintro ⟨j, hj, h⟩
    show l.any (isName s) = true
    exact List.any_eq_true.2 ⟨l[j], List.getElem_mem hj, (isName_iff s _).2 h⟩
/-- Every account stands rightly behind those ahead of it. -/
def TreeOK (l : List S57) : Prop := ∀ j (hj : j < l.length), okA (l.take j) l[j] = true
theorem allA_ok (l : List S57) : ∀ n, n ≤ l.length → (allA l n = true ↔ ∀ j (hj : j < l.length), j < n → okA (l.take j) l[j] = true)
  | 0, _ => ⟨fun _ j _ h => by omega, fun _ => rfl⟩
  | n + 1, hn => by
    rw [allA_step l n (by omega), Bool.and_eq_true, allA_ok l n (by omega)]
    constructor
    · rintro ⟨h1, h2⟩ j hj hjn
      rcases Nat.lt_or_ge j n with h3 | h3
      · exact h1 j hj h3
      · obtain rfl : j = n := by omega
        exact h2
    · intro h
      exact ⟨fun j hj hjn => h j hj (by omega), h n (by omega) (by omega)⟩
theorem right_iff (l : List S57) : rightA l = true ↔ TreeOK l ∧ 1 ≤ l.length ∧ l.length ≤ 16 := by
  unfold rightA TreeOK
  rw [Bool.and_eq_true, allA_ok l _ (Nat.le_refl _), decide_eq_true_iff]
  exact ⟨fun h => ⟨fun j hj => h.1 j hj hj, h.2⟩, fun h => ⟨fun j hj _ => h.1 j hj, h.2⟩⟩
theorem okA_iff (a : List S57) (x : S57) : okA a x = true ↔ (findA a x.f0).2 = false ∧ nameOK x.f0 = true ∧ ((findA a x.f1).2 = true ∨ x.f1.toList = []) ∧ (-1 ≤ x.f2 ∧ x.f2 ≤ 1073741824) := by
  unfold okA
  simp [Bool.and_eq_true, Bool.or_eq_true, and_assoc]
theorem tree_apart {l : List S57} (T : TreeOK l) {i j : Nat} (hi : i < l.length) (hj : j < l.length) (h : l[i].f0 = l[j].f0) : i = j := by
  have key : ∀ a b (ha : a < l.length) (hb : b < l.length), a < b → l[a].f0 ≠ l[b].f0 := by
    intro a b ha hb hab he
    have h1 := ((okA_iff _ _).1 (T b hb)).1
    have h2 : (findA (l.take b) l[b].f0).2 = true := found_mem.2 ⟨a, by simp; omega, by simpa using he⟩
    rw [h1] at h2
    cases h2
  rcases Nat.lt_trichotomy i j with h1 | h1 | h1
  · exact absurd h (key i j hi hj h1)
  · exact h1
  · exact absurd h.symm (key j i hj hi h1)
theorem find_self {l : List S57} (T : TreeOK l) {i : Nat} (hi : i < l.length) {s : ByteArray} (h : l[i].f0 = s) : findA l s = ((i : Int), true) := by
  obtain ⟨p, hp, he, hf⟩ := found_at (found_mem.2 ⟨i, hi, h⟩)
  obtain rfl := tree_apart T hp hi (hf.trans h.symm)
  exact he
theorem par_lt {l : List S57} (T : TreeOK l) {i : Nat} (hi : i < l.length) (he : ¬ l[i].f1.toList = []) : ∃ p, ∃ hp : p < l.length, p < i ∧ findA l l[i].f1 = ((p : Int), true) ∧ l[p].f0 = l[i].f1 := by
  have h1 := ((okA_iff _ _).1 (T i hi)).2.2.1
  rcases h1 with h1 | h1
  · obtain ⟨j, hj, hjf⟩ := found_mem.1 h1
    have hj2 : j < i := by simp at hj; omega
    have hjf2 : l[j].f0 = l[i].f1 := by simpa using hjf
    exact ⟨j, by omega, hj2, find_self T (by omega) hjf2, hjf2⟩
  · exact absurd h1 he
/-! ### paths -/
/-- The path's rest, with fuel. -/
def restA (l : List S57) : Nat → Nat → List ByteArray
  | 0, _ => []
  | f + 1, i => if ((rd_T57 l (i : Int)).f1).toList = [] then [] else (rd_T57 l (findA l (rd_T57 l (i : Int)).f1).1).f0 :: restA l f (findA l (rd_T57 l (i : Int)).f1).1.toNat
def upsA (l : List S57) (i : Nat) : List ByteArray := (rd_T57 l (i : Int)).f0 :: restA l i i
theorem rest_top {l : List S57} (f : Nat) {i : Nat} (hi : i < l.length) (h : l[i].f1.toList = []) : restA l f i = [] := by
  cases f with
  | zero => rfl
  | succ f => rw [restA, rdA l i hi, if_pos h]
theorem rest_on {l : List S57} (f : Nat) {i p : Nat} (hi : i < l.length) (hp : p < l.length) (h : ¬ l[i].f1.toList = []) (hf : findA l l[i].f1 = ((p : Int), true)) : restA l (f + 1) i = l[p].f0 :: restA l f p := by
  rw [restA, rdA l i hi, if_neg h, hf]
  simp only [Int.toNat_natCast]
  rw [rdA l p hp]
theorem rest_fuel {l : List S57} (T : TreeOK l) : ∀ f g i, i < l.length → i ≤ f → i ≤ g → restA l f i = restA l g i
  | 0, g, i, hi, hf, hg => by
    obtain rfl : i = 0 := by omega
    by_cases h : l[0].f1.toList = []
    · rw [rest_top _ hi h, rest_top _ hi h]
    · obtain ⟨p, hp, h1, _⟩ := par_lt T hi h
      omega
  | f + 1, 0, i, hi, hf, hg => by
    obtain rfl : i = 0 := by omega
    by_cases h : l[0].f1.toList = []
    · rw [rest_top _ hi h, rest_top _ hi h]
    · obtain ⟨p, hp, h1, _⟩ := par_lt T hi h
      omega
  | f + 1, g + 1, i, hi, hf, hg => by
    by_cases h : l[i].f1.toList = []
    · rw [rest_top _ hi h, rest_top _ hi h]
    · obtain ⟨p, hp, h1, h2, h3⟩ := par_lt T hi h
      rw [rest_on f hi hp h h2, rest_on g hi hp h h2, rest_fuel T f g p hp (by omega) (by omega)]
theorem rest_step {l : List S57} (T : TreeOK l) {i p : Nat} (hi : i < l.length) (hp : p < l.length) (hpi : p < i) (h : ¬ l[i].f1.toList = []) (hf : findA l l[i].f1 = ((p : Int), true)) : restA l i i = upsA l p := by
  obtain ⟨j, rfl⟩ : ∃ j, i = j + 1 := ⟨i - 1, by omega⟩
  rw [rest_on j hi hp h hf, rest_fuel T j p p hp (by omega) (by omega), upsA, rdA l p hp]
theorem ups_eq {l : List S57} {i : Nat} (hi : i < l.length) : upsA l i = l[i].f0 :: restA l i i := by rw [upsA, rdA l i hi]
theorem rest_names {l : List S57} (T : TreeOK l) : ∀ n i, i < n → ∀ hi : i < l.length, ∀ s ∈ restA l i i, ∃ p, ∃ hp : p < l.length, p < i ∧ s = l[p].f0
  | 0, i, h, hi, s, hs => by omega
  | n + 1, i, h, hi, s, hs => by
    by_cases he : l[i].f1.toList = []
    · rw [rest_top _ hi he] at hs
      cases hs
    · obtain ⟨p, hp, h1, h2, h3⟩ := par_lt T hi he
      rw [rest_step T hi hp h1 he h2, ups_eq hp] at hs
      rcases List.mem_cons.1 hs with h4 | h4
      · exact ⟨p, hp, h1, h4⟩
      · obtain ⟨q, hq, h5, h6⟩ := rest_names T n p (by omega) hp s h4
        exact ⟨q, hq, by omega, h6⟩
theorem rest_len {l : List S57} (T : TreeOK l) : ∀ n i, i < n → i < l.length → (restA l i i).length ≤ i
  | 0, i, h, hi => by omega
  | n + 1, i, h, hi => by
    by_cases he : l[i].f1.toList = []
    · rw [rest_top _ hi he]
      simp
    · obtain ⟨p, hp, h1, h2, h3⟩ := par_lt T hi he
      rw [rest_step T hi hp h1 he h2, ups_eq hp]
      have := rest_len T n p (by omega) hp
      simp
      omega
theorem up_l0 {l : List S57} (T : TreeOK l) : ∀ n i, i < n → ∀ hi : i < l.length, ∀ acc : List ByteArray, acc.length + i < 8796093022208 → Ev (fun k => tree_up.l0 k l (i : Int) acc) (acc ++ restA l i i)
  | 0, i, h, hi, acc, ha => by omega
  | n + 1, i, h, hi, acc, ha => by
    refine Ev.stp (fun k => by rw [tree_up.l0]) (Ev.pos (by omega) (Ev.pos (by omega) ?_))
    rw [rdA l i hi]
    by_cases he : l[i].f1.toList = []
    · refine Ev.pos he ?_
      rw [rest_top _ hi he, List.append_nil]
      exact Ev.one rfl
    · obtain ⟨p, hp, h1, h2, h3⟩ := par_lt T hi he
      refine Ev.neg he (Ev.bnd (Ev.const rfl) ?_)
      rw [h2]
      refine Ev.pos (by simp only; omega) (Ev.pos (by simp only; omega) (Ev.pos (by omega) ?_))
      simp only
      rw [rdA l p hp, rest_step T hi hp h1 he h2, ups_eq hp, show acc ++ l[p].f0 :: restA l p p = acc ++ [l[p].f0] ++ restA l p p by simp]
      exact up_l0 T n p (by omega) hp (acc ++ [l[p].f0]) (by rw [List.length_append, List.length_singleton]; omega)
theorem up_ev {l : List S57} (T : TreeOK l) (hl : l.length ≤ 16) {i : Nat} (hi : i < l.length) : Ev (fun k => tree_up.f k l (i : Int)) (upsA l i) := by
  unfold tree_up.f
  refine Ev.pos (by omega) (Ev.pos (by omega) ?_)
  rw [rdA l i hi, ups_eq hi]
  exact up_l0 T (i + 1) i (by omega) hi [l[i].f0] (by simp; omega)
def pathA (l : List S57) (s : ByteArray) : List ByteArray × Int := if rightA l = true then (if (findA l s).2 = true then (upsA l (findA l s).1.toNat, 0) else ([], 141)) else ([], 2)
theorem place_f (l : List S57) (s : ByteArray) : tree_place.f l s = some (if rightA l = true then (if (findA l s).2 = true then ((findA l s).1, 0) else (0, 141)) else (0, 2)) := by
  unfold tree_place.f
  show (some (rightA l)).bind _ = _
  rw [Option.bind_some]
  split
  · show (some (findA l s)).bind _ = _
    rw [Option.bind_some]
    split <;> rfl
  · rfl
theorem place_ok {l : List S57} {s : ByteArray} (hr : rightA l = true) {p : Nat} (he : findA l s = ((p : Int), true)) : tree_place.f l s = some ((p : Int), 0) := by rw [place_f, if_pos hr, he]; rfl
theorem place_no {l : List S57} {s : ByteArray} (hr : rightA l = true) (he : (findA l s).2 = false) : tree_place.f l s = some (0, 141) := by rw [place_f, if_pos hr, he]; rfl
theorem place_bad {l : List S57} {s : ByteArray} (hr : ¬ rightA l = true) : tree_place.f l s = some (0, 2) := by rw [place_f, if_neg hr]
theorem path_ev (l : List S57) (s : ByteArray) : Ev (fun k => tree_Path.f k l s) (pathA l s) := by
  unfold tree_Path.f pathA
  by_cases hr : rightA l = true
  · obtain ⟨T, _, hl⟩ := (right_iff l).1 hr
    rw [if_pos hr]
    cases hf : (findA l s).2 with
    | true =>
      obtain ⟨p, hp, he, _⟩ := found_at hf
      rw [if_pos rfl, he]
      exact Ev.bnd (Ev.const (place_ok hr he)) (Ev.pos rfl (Ev.bnd (up_ev T hl hp) (Ev.one rfl)))
    | false =>
      rw [if_neg (by decide)]
      exact Ev.bnd (Ev.const (place_no hr hf)) (Ev.neg (by decide) (Ev.one rfl))
  · rw [if_neg hr]
    exact Ev.bnd (Ev.const (place_bad hr)) (Ev.neg (by decide) (Ev.one rfl))
/-! ### lists of names -/
def hasB (L : List ByteArray) (s : ByteArray) : Bool := L.any (fun x => x.toList == s.toList)
theorem hasB_iff (L : List ByteArray) (s : ByteArray) : hasB L s = true ↔ s ∈ L := by
  unfold hasB
  rw [List.any_eq_true]
  constructor
  · rintro ⟨x, hx, h⟩
    rw [← toL_inj (beq_iff_eq.1 h)]
    exact hx
  · intro h
    exact ⟨s, h, by simp⟩
theorem drop_any (L : List ByteArray) (p : ByteArray → Bool) (j : Nat) (h : j < L.length) : (L.drop j).any p = (p L[j] || (L.drop (j + 1)).any p) := by
  rw [List.drop_eq_getElem_cons h, List.any_cons]
theorem rdB (L : List ByteArray) (j : Nat) (h : j < L.length) : rdOf ByteArray.empty L (j : Int) = L[j] := rdOf_nat _ L j h
theorem index_l0 (L : List ByteArray) (s : ByteArray) (hL : L.length < 9000000000000000000) : ∀ d j, L.length - j = d → j ≤ L.length → ∃ r : Int, Ev (fun k => slices_Index_string_string.l0 k L s (L.length : Int) (j : Int)) r ∧ decide (r ≥ 0) = (L.drop j).any (fun x => x.toList == s.toList)
  | 0, j, hd, hj => ⟨-1, Ev.stp (fun k => by rw [slices_Index_string_string.l0]) (Ev.neg (by omega) (Ev.one rfl)), by rw [List.drop_of_length_le (by omega)]; rfl⟩
  | d + 1, j, hd, hj => by
    have hlt : j < L.length := by omega
    rw [drop_any L _ j hlt]
    by_cases h : L[j].toList = s.toList
    · refine ⟨j, Ev.stp (fun k => by rw [slices_Index_string_string.l0]) (Ev.pos (by omega) (Ev.pos (by omega) (Ev.pos (by omega) ?_))), ?_⟩
      · rw [rdB L j hlt]
        exact Ev.pos h.symm (Ev.one rfl)
      · simp [h]
    · obtain ⟨r, h1, h2⟩ := index_l0 L s hL d (j + 1) (by omega) (by omega)
      refine ⟨r, Ev.stp (fun k => by rw [slices_Index_string_string.l0]) (Ev.pos (by omega) (Ev.pos (by omega) (Ev.pos (by omega) ?_))), ?_⟩
      · rw [rdB L j hlt, wr1 (by omega)]
        exact Ev.neg (fun e => h e.symm) h1
      · rw [h2]
        simp [h]
theorem contains_ev (L : List ByteArray) (s : ByteArray) (hL : L.length < 9000000000000000000) : Ev (fun k => slices_Contains_string_string.f k L s) (hasB L s) := by
  obtain ⟨r, h1, h2⟩ := index_l0 L s hL _ 0 rfl (by omega)
  unfold slices_Contains_string_string.f
  refine Ev.bnd (a := r) h1 (Ev.one ?_)
  rw [h2]
  rfl
/-! ### what lies below -/
def belA (l : List S57) (s : ByteArray) : Nat → List ByteArray
  | 0 => []
  | n + 1 => belA l s n ++ (if hasB (upsA l n) s = true then [(rd_T57 l (n : Int)).f0] else [])
theorem belA_len (l : List S57) (s : ByteArray) : ∀ n, (belA l s n).length ≤ n
  | 0 => by simp [belA]
  | n + 1 => by
    have := belA_len l s n
    rw [belA, List.length_append]
    split <;> simp <;> omega
theorem belA_mem (l : List S57) (s a : ByteArray) : ∀ n, n ≤ l.length → (a ∈ belA l s n ↔ ∃ i, ∃ hi : i < l.length, i < n ∧ hasB (upsA l i) s = true ∧ l[i].f0 = a)
  | 0, _ => by simp [belA]
  | n + 1, hn => by
    rw [belA, List.mem_append, belA_mem l s a n (by omega)]
    constructor
    · rintro (⟨i, hi, h1, h2⟩ | h)
      · exact ⟨i, hi, by omega, h2⟩
      · split at h
        · rename_i hs
          rw [rdA l n (by omega)] at h
          exact ⟨n, by omega, by omega, hs, (List.mem_singleton.1 h).symm⟩
        · cases h
    · rintro ⟨i, hi, h1, h2, h3⟩
      rcases Nat.lt_or_ge i n with h4 | h4
      · exact Or.inl ⟨i, hi, h4, h2, h3⟩
      · obtain rfl : i = n := by omega
        right
        rw [if_pos h2, rdA l i hi, h3]
        simp
theorem ups_len {l : List S57} (T : TreeOK l) {i : Nat} (hi : i < l.length) : (upsA l i).length ≤ i + 1 := by
  have := rest_len T (i + 1) i (by omega) hi
  simp [upsA]
  omega
theorem below_l0 {l : List S57} (T : TreeOK l) (hl : l.length ≤ 16) (s : ByteArray) : ∀ d j, l.length - j = d → j ≤ l.length → Ev (fun k => tree_Below.l0 k l s (belA l s j) l (l.length : Int) (j : Int)) (belA l s l.length, 0)
  | 0, j, hd, hj => Ev.stp (fun k => by rw [tree_Below.l0]) (Ev.neg (by omega) (Ev.one (by rw [show j = l.length by omega])))
  | d + 1, j, hd, hj => by
    have hlt : j < l.length := by omega
    have hlen := ups_len T hlt
    have hb := belA_len l s j
    refine Ev.stp (fun k => by rw [tree_Below.l0]) (Ev.pos (by omega) (Ev.pos (by omega) (Ev.pos (by omega) (Ev.bnd (up_ev T hl hlt) (Ev.bnd (contains_ev (upsA l j) s (by omega)) ?_)))))
    have ih := below_l0 T hl s d (j + 1) (by omega) (by omega)
    rw [wr1 (by omega)]
    rw [belA] at ih
    cases hh : hasB (upsA l j) s with
    | true =>
      rw [hh, if_pos rfl] at ih
      exact Ev.pos rfl (Ev.pos (by omega) ih)
    | false =>
      rw [hh, if_neg (by decide), List.append_nil] at ih
      exact Ev.neg (by decide) ih
def belowA (l : List S57) (s : ByteArray) : List ByteArray × Int := if rightA l = true then (if (findA l s).2 = true then (belA l s l.length, 0) else ([], 141)) else ([], 2)
theorem below_ev (l : List S57) (s : ByteArray) : Ev (fun k => tree_Below.f k l s) (belowA l s) := by
  unfold tree_Below.f belowA
  by_cases hr : rightA l = true
  · obtain ⟨T, _, hl⟩ := (right_iff l).1 hr
    rw [if_pos hr]
    cases hf : (findA l s).2 with
    | true =>
      obtain ⟨p, hp, he, _⟩ := found_at hf
      rw [if_pos rfl]
      exact Ev.bnd (Ev.const (place_ok hr he)) (Ev.pos rfl (below_l0 T hl s _ 0 rfl (by omega)))
    | false =>
      rw [if_neg (by decide)]
      exact Ev.bnd (Ev.const (place_no hr hf)) (Ev.neg (by decide) (Ev.one rfl))
  · rw [if_neg hr]
    exact Ev.bnd (Ev.const (place_bad hr)) (Ev.neg (by decide) (Ev.one rfl))
/-! ### limits -/
end Go.Proofs.Ytcnobkcddgcifaa.PT
