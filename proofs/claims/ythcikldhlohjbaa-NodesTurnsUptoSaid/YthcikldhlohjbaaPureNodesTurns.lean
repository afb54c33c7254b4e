/- Nodes go down and up by turns only. -/
import Derived.Test.YthcikldhlohjbaaPNx10
import Derived.Test.YthcikldhlohjbaaPNOpenNodesTurns
import Derived.Test.YthcikldhlohjbaaPlainNodesA
set_option linter.unusedVariables false
set_option linter.unusedSimpArgs false
namespace Go.Proofs.Ythcikldhlohjbaa.Pure
open Go.RowKit Go.Proofs.YthcikldhlohjbaaW.PrintWords Go.Proofs.YthcikldhlohjbaaW.PrintLast Go.Proofs.YthcikldhlohjbaaW.PrintMore Go.Proofs.Ythcikldhlohjbaa.EvK Go.Proofs.Ythcikldhlohjbaa.PN Go.Proofs.Ythcikldhlohjbaa.PN.NodesTurnsOpen
/-- The nodes, their marks, their counts. -/
structure Inv (cores : List Int) (s : List S55) (up : List Bool) (ep : List Int) (j : Nat) : Prop where
  hu : up = s.map (·.f1)
  he : ep = s.map (·.f2)
  hc : cores = s.map (·.f0)
  hr : nodesRight s = true
  hb : ∀ x ∈ s, x.f2 ≤ (j : Int) + 1
theorem right_len {s : List S55} (h : nodesRight s = true) : 1 ≤ s.length ∧ s.length ≤ 32 := by
  unfold nodesRight at h
  simp only [Bool.and_eq_true, decide_eq_true_eq] at h
  exact h.1
theorem right_set {s : List S55} (h : nodesRight s = true) (i : Nat) (hi : i < s.length) (x : S55) (h0 : x.f0 = s[i].f0) (h1 : 1 ≤ x.f2) (h2 : x.f2 ≤ 1073741824) : nodesRight (s.set i x) = true := by
  unfold nodesRight at h ⊢
  simp only [Bool.and_eq_true, Bool.not_eq_true', List.length_set] at h ⊢
  refine ⟨h.1, List.any_eq_false.2 fun y hy => ?_⟩
  rcases List.mem_or_eq_of_mem_set hy with hy | rfl
  · exact List.any_eq_false.1 h.2 y hy
  · have h3 := List.any_eq_false.1 h.2 s[i] (List.getElem_mem hi)
    unfold wrongN at h3 ⊢
    simp only [decide_eq_true_eq] at h3 ⊢
    omega
theorem inv_more {cores s up ep j} (h : Inv cores s up ep j) : Inv cores s up ep (j + 1) := ⟨h.hu, h.he, h.hc, h.hr, fun x hx => by have := h.hb x hx; omega⟩
theorem l2_ev (cores l : List Int) (s : List S55) (up : List Bool) (ep : List Int) (x10 : Int) (J : Nat) (h : Inv cores s up ep J) (hn : Ev (fun k => musterlaw13_NodesTurns.l1 k cores l s up ep (wrap64 (x10 + 1))) true) :
    ∀ d i, i + d = s.length → Ev (fun k => musterlaw13_NodesTurns.l2 k cores l s up ep x10 (s.length : Int) (i : Int)) true := by
  have hl := right_len h.hr
  intro d
  induction d with
  | zero =>
    intro i hi
    refine Ev.stp (fun k => by rw [musterlaw13_NodesTurns.l2]) ?_
    exact Ev.neg (by omega) hn
  | succ d ih =>
    intro i hi
    have hlt : i < s.length := by omega
    have e1 : up.length = s.length := by rw [h.hu, List.length_map]
    have e2 : ep.length = s.length := by rw [h.he, List.length_map]
    have e3 : cores.length = s.length := by rw [h.hc, List.length_map]
    refine Ev.stp (fun k => by rw [musterlaw13_NodesTurns.l2]) ?_
    refine Ev.pos (by omega) (Ev.pos (by omega) (Ev.pos (by omega) (Ev.pos (by omega) (Ev.neg ?_ (Ev.pos (by omega) (Ev.pos ?_ (Ev.pos (by omega) (Ev.pos ?_ ?_))))))))
    · rw [rdN s i hlt, rdOf_nat false up i (by omega)]
      simp [h.hu]
    · rw [rdN s i hlt, rd_nat ep i (by omega)]
      simp [h.he]
    · rw [rdN s i hlt, rd_nat cores i (by omega)]
      simp [h.hc]
    · rw [wr1 (by omega)]
      exact ih (i + 1) (by omega)
theorem mn_of {a b : Int} (h : a ≤ b) : mn a b = a := by unfold mn; omega
theorem fail_out (s : List S55) (hr : nodesRight s = true) (n : Int) : (∃ m : Nat, n = m ∧ ∃ h : m < s.length, s[m].f1 = true ∧ failN s n = (s.set m ⟨s[m].f0, false, s[m].f2⟩, 0)) ∨ ((failN s n).2 ≠ 0 ∧ ∀ m : Nat, n = m → ∀ h : m < s.length, s[m].f1 ≠ true) := by
  by_cases h : (nodesAt s n).2 = 0
  · obtain ⟨_, h0, h1, _⟩ := at_0 h
    obtain ⟨m, rfl⟩ := Int.eq_ofNat_of_zero_le h0
    have hm : m < s.length := by omega
    unfold failN
    rw [if_pos h, rdN s m hm, Int.toNat_natCast]
    by_cases hf : s[m].f1 = true
    · rw [if_pos hf]
      exact .inl ⟨m, rfl, hm, hf, rfl⟩
    · rw [if_neg hf]
      refine .inr ⟨by simp, fun m' e h' => ?_⟩
      obtain rfl : m = m' := by omega
      exact hf
  · refine .inr ⟨by unfold failN; rw [if_neg h]; simp, fun m e h' => ?_⟩
    subst e
    exact absurd (by unfold nodesAt; rw [if_pos ⟨by omega, by omega, hr⟩]) h
theorem rise_out (s : List S55) (hr : nodesRight s = true) (hb : ∀ x ∈ s, x.f2 ≤ 1000) (n : Int) : (∃ m : Nat, n = m ∧ ∃ h : m < s.length, s[m].f1 = false ∧ riseN s n = (s.set m ⟨s[m].f0, true, s[m].f2 + 1⟩, 0)) ∨ ((riseN s n).2 ≠ 0 ∧ ∀ m : Nat, n = m → ∀ h : m < s.length, s[m].f1 ≠ false) := by
  by_cases h : (nodesAt s n).2 = 0
  · obtain ⟨_, h0, h1, _⟩ := at_0 h
    obtain ⟨m, rfl⟩ := Int.eq_ofNat_of_zero_le h0
    have hm : m < s.length := by omega
    unfold riseN
    rw [if_pos h, rdN s m hm, Int.toNat_natCast]
    by_cases hf : s[m].f1 = true
    · rw [if_pos hf]
      refine .inr ⟨by simp, fun m' e h' => ?_⟩
      obtain rfl : m = m' := by omega
      rw [hf]
      simp
    · have := hb s[m] (List.getElem_mem hm)
      rw [if_neg hf, if_neg (by omega)]
      exact .inl ⟨m, rfl, hm, by simpa using hf, rfl⟩
  · refine .inr ⟨by unfold riseN; rw [if_neg h]; simp, fun m e h' => ?_⟩
    subst e
    exact absurd (by unfold nodesAt; rw [if_pos ⟨by omega, by omega, hr⟩]) h
/-- What a turn does to what is kept beside. -/
theorem inv_turn {cores s up ep j} (h : Inv cores s up ep j) (m : Nat) (hm : m < s.length) (f : Bool) (hj : j ≤ 300) (e2 : Int) (h2 : e2 = s[m].f2 ∨ e2 = s[m].f2 + 1) : Inv cores (s.set m ⟨s[m].f0, !f, e2⟩) (up.set m (!f)) (ep.set m e2) (j + 1) := by
  have hq := right_at h.hr (i := (m : Int)) (by omega) (by omega)
  rw [rdN s m hm] at hq
  have hbm := h.hb s[m] (List.getElem_mem hm)
  refine ⟨?_, ?_, ?_, right_set h.hr m hm _ rfl ?_ ?_, fun x hx => ?_⟩
  · rw [h.hu, List.map_set]
  · rw [h.he, List.map_set]
  · rw [List.map_set]
    simp only
    rw [h.hc]
    apply List.ext_getElem (by simp)
    intro i h1 h2
    rw [List.getElem_set]
    split
    · rename_i e; subst e; simp
    · rfl
  · show 1 ≤ e2
    omega
  · show e2 ≤ 1073741824
    omega
  · rcases List.mem_or_eq_of_mem_set hx with hx | rfl
    · have := h.hb x hx; omega
    · show e2 ≤ _
      omega
section
variable {cores l : List Int} {s : List S55} {up : List Bool} {ep : List Int} {j : Nat}
theorem j4_yes (h : Inv cores s up ep j) (hj : j ≤ 300) (m : Nat) (hm : m < s.length) (f : Bool) (hf : s[m].f1 = f) (e2 : Int) (h2 : e2 = if f = true then s[m].f2 else s[m].f2 + 1)
    (hn : ∀ s' up' ep', Inv cores s' up' ep' (j + 1) → Ev (fun k => musterlaw13_NodesTurns.l1 k cores l s' up' ep' ((j + 1 : Nat) : Int)) true) :
    Ev (fun k => musterlaw13_NodesTurns.j4 k cores l s up ep (j : Int) (m : Int) f (s.set m ⟨s[m].f0, !f, e2⟩) 0) true := by
  have hl := right_len h.hr
  have e1 : up.length = s.length := by rw [h.hu, List.length_map]
  have e3 : ep.length = s.length := by rw [h.he, List.length_map]
  have hq := right_at h.hr (i := (m : Int)) (by omega) (by omega)
  rw [rdN s m hm] at hq
  have hup : rdOf false up (m : Int) = f := by rw [rdOf_nat false up m (by omega), ← hf]; simp [h.hu]
  have hep : rd ep (m : Int) = s[m].f2 := by rw [rd_nat ep m (by omega)]; simp [h.he]
  have hI := inv_turn h m hm f hj e2 (by rw [h2]; split <;> simp)
  have hL : Ev (fun k => musterlaw13_NodesTurns.j7 k cores l (up.set m (!f)) (ep.set m e2) (j : Int) (s.set m ⟨s[m].f0, !f, e2⟩)) true := by
    refine Ev.stp (fun k => by rw [musterlaw13_NodesTurns.j7]) ?_
    refine l2_ev cores l _ _ _ (j : Int) (j + 1) hI ?_ _ 0 (Nat.zero_add _)
    rw [wr1 (by omega)]
    exact hn _ _ _ hI
  refine Ev.stp (fun k => by rw [musterlaw13_NodesTurns.j4]) ?_
  refine Ev.pos (by omega) ?_
  rw [decide_eq_true (by omega : (m : Int) < (s.length : Int))]
  refine Ev.stp (fun k => by rw [musterlaw13_NodesTurns.j5]) ?_
  rw [wrI (x := (s.length : Int) - 1) (by omega) (by omega), mn_of (by omega : (m : Int) ≤ (s.length : Int) - 1)]
  refine Ev.pos rfl (Ev.pos (by omega) (Ev.pos (by omega) ?_))
  rw [hup]
  have hz : (((0 : Int) == 0) != (f == f)) = false := by simp
  rw [hz]
  refine Ev.stp (fun k => by rw [musterlaw13_NodesTurns.j6]) ?_
  refine Ev.neg (by decide) (Ev.pos rfl (Ev.pos (by omega) (Ev.pos (by omega) (Ev.sbnd ?_))))
  rw [Int.toNat_natCast]
  cases f with
  | true =>
    refine Ev.pos rfl ?_
    rw [if_pos rfl] at h2
    have : ep.set m e2 = ep := by rw [h2, h.he]; apply List.ext_getElem (by simp); intro i h1 h2; rw [List.getElem_set]; split <;> simp_all
    rw [this] at hL
    exact hL
  | false =>
    refine Ev.neg (by decide) (Ev.pos (by omega) ?_)
    rw [if_neg (by decide)] at h2
    rw [hep, wrI (by omega) (by omega), ← h2]
    exact hL
theorem j4_no (h : Inv cores s up ep j) (n : Int) (f : Bool) (nx : List S55) (e : Int) (he : e ≠ 0) (hf : ∀ m : Nat, n = m → ∀ h : m < s.length, s[m].f1 ≠ f)
    (hn : Ev (fun k => musterlaw13_NodesTurns.l1 k cores l s up ep (wrap64 ((j : Int) + 1))) true) :
    Ev (fun k => musterlaw13_NodesTurns.j4 k cores l s up ep (j : Int) n f nx e) true := by
  have hl := right_len h.hr
  have e1 : up.length = s.length := by rw [h.hu, List.length_map]
  have h6 : ∀ b, b = false → Ev (fun k => musterlaw13_NodesTurns.j6 k cores l s up ep (j : Int) n f nx e b) true := by
    rintro _ rfl
    refine Ev.stp (fun k => by rw [musterlaw13_NodesTurns.j6]) ?_
    exact Ev.neg (by decide) (Ev.neg he hn)
  have hz : (e == 0) = false := by simpa using he
  have h5 : Ev (fun k => musterlaw13_NodesTurns.j5 k cores l s up ep (j : Int) n f nx e false) true := by
    refine Ev.stp (fun k => by rw [musterlaw13_NodesTurns.j5]) ?_
    exact Ev.neg (by decide) (h6 _ (by rw [hz]; rfl))
  refine Ev.stp (fun k => by rw [musterlaw13_NodesTurns.j4]) ?_
  by_cases h0 : n ≥ 0
  · refine Ev.pos h0 ?_
    obtain ⟨m, rfl⟩ := Int.eq_ofNat_of_zero_le h0
    by_cases hm : m < s.length
    · rw [decide_eq_true (by omega : (m : Int) < (s.length : Int))]
      refine Ev.stp (fun k => by rw [musterlaw13_NodesTurns.j5]) ?_
      rw [wrI (x := (s.length : Int) - 1) (by omega) (by omega), mn_of (by omega : (m : Int) ≤ (s.length : Int) - 1)]
      refine Ev.pos rfl (Ev.pos (by omega) (Ev.pos (by omega) (h6 _ ?_)))
      have hup : rdOf false up (m : Int) = s[m].f1 := by rw [rdOf_nat false up m (by omega)]; simp [h.hu]
      have := hf m rfl hm
      rw [hz, hup]
      simpa using this
    · rw [decide_eq_false (by omega : ¬ (m : Int) < (s.length : Int))]
      exact h5
  · exact Ev.neg h0 h5
end
theorem l1_ev (cores l : List Int) (hl : l.length ≤ 1048576) (hw : ∀ x ∈ l, (Lit.int .i64 x).wf = true) : ∀ d j s up ep, (j + d = min l.length 200) → Inv cores s up ep j → Ev (fun k => musterlaw13_NodesTurns.l1 k cores l s up ep (j : Int)) true := by
  intro d
  induction d with
  | zero =>
    intro j s up ep hj h
    have hend : Ev (fun k => musterlaw13_NodesTurns.j2 k cores l s up ep (j : Int) false) true := by
      refine Ev.stp (fun k => by rw [musterlaw13_NodesTurns.j2]) ?_
      refine Ev.neg (by decide) (Ev.bnd (Ev.const rfl) (Ev.pos h.hr (Ev.bnd awake_ev (Ev.one rfl))))
    refine Ev.stp (fun k => by rw [musterlaw13_NodesTurns.l1]) ?_
    by_cases hlt : (j : Int) < (l.length : Int)
    · refine Ev.pos hlt ?_
      rw [decide_eq_false (by omega)]
      exact hend
    · exact Ev.neg hlt hend
  | succ d ih =>
    intro j s up ep hj h
    have hlt : j < l.length := by omega
    have hsl := right_len h.hr
    have e1 : up.length = s.length := by rw [h.hu, List.length_map]
    have e2 : ep.length = s.length := by rw [h.he, List.length_map]
    have go : ∀ (n : Int) (f : Bool), Ev (fun k => musterlaw13_NodesTurns.j3 k cores l s up ep (j : Int) n f) true := by
      intro n f
      have more : Ev (fun k => musterlaw13_NodesTurns.l1 k cores l s up ep (wrap64 ((j : Int) + 1))) true := by
        rw [wr1 (by omega)]
        exact ih (j + 1) s up ep (by omega) (inv_more h)
      refine Ev.stp (fun k => by rw [musterlaw13_NodesTurns.j3]) ?_
      refine Ev.bnd (Ev.const (rise_f s n)) ?_
      have hn : ∀ s' up' ep', Inv cores s' up' ep' (j + 1) → Ev (fun k => musterlaw13_NodesTurns.l1 k cores l s' up' ep' ((j + 1 : Nat) : Int)) true := fun s' up' ep' h' => ih (j + 1) s' up' ep' (by omega) h'
      cases f with
      | true =>
        refine Ev.pos rfl (Ev.bnd (Ev.const (fail_f s n)) ?_)
        rcases fail_out s h.hr n with ⟨m, rfl, hm, hf, e⟩ | ⟨he, hf⟩
        · rw [e]
          exact j4_yes h (by omega) m hm true hf _ (by rw [if_pos rfl]) hn
        · exact j4_no h n true _ _ he hf more
      | false =>
        refine Ev.neg (by decide) ?_
        rcases rise_out s h.hr (fun x hx => by have := h.hb x hx; omega) n with ⟨m, rfl, hm, hf, e⟩ | ⟨he, hf⟩
        · rw [e]
          exact j4_yes h (by omega) m hm false hf _ (by rw [if_neg (by decide)]) hn
        · exact j4_no h n false _ _ he hf more
    refine Ev.stp (fun k => by rw [musterlaw13_NodesTurns.l1]) ?_
    refine Ev.pos (by omega) ?_
    rw [decide_eq_true (by omega : (j : Int) < 200)]
    refine Ev.stp (fun k => by rw [musterlaw13_NodesTurns.j2]) ?_
    refine Ev.pos rfl (Ev.pos (by omega) (Ev.pos (by omega) ?_))
    by_cases hneg : rd l (j : Int) < 0
    · exact Ev.pos hneg (go _ _)
    · exact Ev.neg hneg (go _ _)
theorem set_rep {α : Type} (i d : Nat) (a b : α) : (List.replicate i a ++ List.replicate (d + 1) b).set i a = List.replicate (i + 1) a ++ List.replicate d b := by
  rw [List.set_append_right _ _ (by simp)]
  simp only [List.length_replicate, Nat.sub_self, List.replicate_succ (n := d), List.set_cons_zero]
  rw [List.replicate_succ', List.append_assoc]
  rfl
/-- The marks are set: all are up, each has come once. -/
theorem l0_ev (cores l : List Int) (s : List S55) (n : Nat) (hn : n ≤ 40) (hend : Ev (fun k => musterlaw13_NodesTurns.l1 k cores l s (List.replicate n true) (List.replicate n 1) 0) true) : ∀ d i up ep, i + d = n → up = List.replicate i true ++ List.replicate d false → ep = List.replicate i 1 ++ List.replicate d 0 → Ev (fun k => musterlaw13_NodesTurns.l0 k cores l s up ep (n : Int) (i : Int)) true := by
  intro d
  induction d with
  | zero =>
    rintro i up ep hi rfl rfl
    obtain rfl : i = n := by omega
    refine Ev.stp (fun k => by rw [musterlaw13_NodesTurns.l0]) ?_
    refine Ev.neg (by omega) ?_
    simpa using hend
  | succ d ih =>
    rintro i up ep hi rfl rfl
    refine Ev.stp (fun k => by rw [musterlaw13_NodesTurns.l0]) ?_
    refine Ev.pos (by omega) (Ev.pos (by omega) (Ev.pos (by simp; omega) (Ev.pos (by simp; omega) ?_)))
    rw [wr1 (by omega), Int.toNat_natCast]
    exact ih (i + 1) _ _ (by omega) (set_rep i d true false) (set_rep i d 1 0)
theorem NodesTurns (x0 : List (Int)) (x1 : List (Int)) (w0 : (x0.length * 8 ≤ 140737488351232 ∧ ∀ yx0 ∈ x0, (Lit.int .i64 yx0).wf = true)) (w1 : (x1.length * 8 ≤ 140737488351232 ∧ ∀ yx1 ∈ x1, (Lit.int .i64 yx1).wf = true)) (u0 : x0.length ≤ 1048576) (u1 : x1.length ≤ 1048576) : ∃ k, PN.musterlaw13_NodesTurns.f k x0 x1 = some true := by
  refine Ev.the ?_
  unfold PN.musterlaw13_NodesTurns.f
  refine Ev.bnd (new_ev x0 u0) ?_
  unfold newN
  by_cases hr : nodesRight (x0.map mkN) = true
  · rw [if_pos hr]
    have hl := right_len hr
    rw [List.length_map] at hl
    refine Ev.pos rfl (Ev.pos (by omega) (Ev.pos (by simp; omega) (Ev.sbnd (Ev.pos (by simp; omega) ?_))))
    simp only [List.length_replicate, List.length_map, Int.toNat_natCast]
    refine l0_ev x0 x1 _ x0.length (by omega) ?_ x0.length 0 _ _ (by omega) (by simp) (by simp)
    refine l1_ev x0 x1 u1 w1.2 (min x1.length 200) 0 _ _ _ (by omega) ⟨?_, ?_, ?_, hr, ?_⟩
    · rw [List.map_map]; apply List.ext_getElem (by simp); intro i h1 h2; simp [mkN]
    · rw [List.map_map]; apply List.ext_getElem (by simp); intro i h1 h2; simp [mkN]
    · rw [List.map_map]; apply List.ext_getElem (by simp); intro i h1 h2; simp [mkN]
    · intro x hx
      obtain ⟨c, _, rfl⟩ := List.mem_map.1 hx
      show (1 : Int) ≤ _
      omega
  · rw [if_neg hr]
    exact Ev.neg (by decide) (Ev.pos rfl (Ev.bnd awake_ev (Ev.one rfl)))
end Go.Proofs.Ythcikldhlohjbaa.Pure
