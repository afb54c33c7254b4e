/- One call out of a number. -/
import Derived.Test.YtfggcdpipolahaaFiAll
set_option linter.unusedVariables false
set_option linter.unusedSimpArgs false
namespace Go.Proofs.Ytfggcdpipolahaa.PF
open Go.RowKit Go.Proofs.YtfggcdpipolahaaW.PrintWords Go.Proofs.YtfggcdpipolahaaW.PrintLast Go.Proofs.YtfggcdpipolahaaW.PrintMore
attribute [local go_sem] max2_int min2_int max_two min_two
/-- Nothing is armed. -/
structure Quiet (a : ADk) : Prop where
  down : a.down = false
  arm : a.arm = 0
  fail : a.fail = 0
theorem Quiet.stop {a : ADk} (h : Quiet a) : a.stop = (a, 0) := by
  obtain ⟨now, safe, ops, down, arm, fail, wth⟩ := a
  obtain ⟨h1, h2, h3⟩ := h
  simp only at h1 h2 h3
  subst h1 h2 h3
  rfl
/-- A call has been done. -/
structure Step (a a' : ADk) (o : AOp) : Prop where
  ok : o.Ok a.now
  ops : a'.ops = a.ops ++ [o]
  now : a'.now = a.now.done o o.data.length
  safe : a'.safe = a.safe
  quiet : Quiet a'
theorem quiet_does {a : ADk} (h : Quiet a) (o : AOp) : a.does o = ({ a with ops := a.ops ++ [o], now := a.now.done o o.data.length }, 0) := by
  unfold ADk.does
  rw [h.stop]
  rfl
theorem quiet_step {a : ADk} (h : Quiet a) {o : AOp} (ho : o.Ok a.now) : Step a (a.does o).1 o := by
  rw [quiet_does h o]
  exact ⟨ho, rfl, rfl, rfl, ⟨h.down, h.arm, h.fail⟩⟩
theorem quiet_sync {a : ADk} (h : Quiet a) : a.sync = ({ a with safe := a.now, ops := [] }, 0) := by
  unfold ADk.sync
  rw [h.stop]
  rfl
theorem quiet_read {a : ADk} (h : Quiet a) (f : Nat) (hf : f < 3) : a.read f = (a.now.get f, 0) := by
  unfold ADk.read
  rw [if_pos (by omega), if_neg (by rw [h.down]; decide), Int.toNat_natCast]
def Small (m : Nat) (x : Fs) : Prop := ∀ f, (x.get f).length ≤ m
/-- What a call leaves. -/
def Called (w0 w : World) (b : Nat) (a : ADk) (n : Nat) (e : Ending) (w' : World) : Prop := e = .returned (.tuple #[]) ∧ ∃ a' o F', Step a a' o ∧ o.data.length ≤ 50 ∧ Disks w0 w' (fun _ => True) F' (n + 1) ∧ F' b = some a' ∧ KeptT w w'
set_option maxRecDepth 100000 in
set_option maxHeartbeats 4000000 in
theorem call_calls {w0 w : World} {F : Nat → Option ADk} {b : Nat} {a : ADk} {N : Nat} (h : Disks w0 w (fun _ => True) F N) (hF : F b = some a) (hq : Quiet a) (hs : Small 1000000 a.now) (hN : N ≤ 1099511627776) (n i : Nat) (hn : n ≤ 1000003) (hi : i ≤ 1000003) :
    Calls Try.prog 20 #[.pointer (some ⟨b, 0, none⟩), .int .i64 n, .int .i64 i] w (Called w0 w b a N) := by
  obtain ⟨f, hf⟩ : ∃ f, f = n % 3 := ⟨_, rfl⟩
  have hf3 : f < 3 := by omega
  have e1 : (n : Int) % 3 = (f : Int) := by omega
  have HD := Lib.hid h
  have HF := Lib.hid hF
  have HR := Lib.hid (h.read hF f (quiet_read hq f hf3) hN)
  have hsf := hs f
  have HQ := Lib.hid (And.intro hq (And.intro hs hf3))
  clear h hF hq hs hf
  by_cases h4 : n / 3 % 4 = 0
  · have e2 : (n : Int) / 3 % 4 = 0 := by omega
    obtain ⟨L, hL⟩ : ∃ L, L = (a.now.get f).length := ⟨_, rfl⟩
    rw [← hL] at hsf
    obtain ⟨m, hm⟩ : ∃ m, m = n / 12 % (L + 1) := ⟨_, rfl⟩
    have hmL : m ≤ L := by have := Nat.mod_lt (n / 12) (show 0 < L + 1 by omega); omega
    have em : (n : Int) / 12 % ((L : Int) + 1) = (m : Int) := by rw [hm]; norm_cast
    have em' : Int.tmod ((n : Int) / 12) ((L : Int) + 1) = (m : Int) := by rw [Int.tmod_eq_emod_of_nonneg (by omega)]; exact em
    have v1 : IntKind.i64.wrap ((L : Int) + 1) = (L : Int) + 1 := by rw [IntKind.wrap_i64]; omega
    have hl1 : L ≤ 9223372036854775807 := by omega
    have p1 : ((L : Int) + 1 == 0) = false := by simp; omega
    have p2 : ¬ (L : Int) + 1 = 0 := by omega
    have HC := Lib.hid (show a.cutTo f m = ((a.does ⟨f, true, m, []⟩).1, 0) by
      unfold ADk.cutTo
      rw [if_pos (by omega), if_neg (by rw [Int.toNat_natCast, ← hL]; omega), Int.toNat_natCast, Int.toNat_natCast, quiet_does HQ.out.1])
    have HS := Lib.hid (quiet_step HQ.out.1 (o := ⟨f, true, m, []⟩) ⟨hf3, (fun _ => by show m ≤ (a.now.get f).length; rw [← hL]; exact hmL), (by show 0 ≤ _; omega), (by have := HQ.out.2.1 f; show (a.now.get f).length ≤ _; omega)⟩)
    have HLL := Lib.hid hL
    clear hm hL
    go_enter Try.func20, Try.ntmps20
    go_wp2_with fail
    refine HR.out.mono ?_
    rintro e w1 ⟨A1, c1, he, hr, hb⟩
    rw [← HLL.out] at he
    subst he
    have HD1 := Lib.hid (HD.out.below hb)
    have hk1 := KeptT.of_below hb
    clear hr hb
    go_wp2_with fail
    refine (HD1.out.cut HF.out f m HC.out hN).mono ?_
    rintro e w2 ⟨rfl, F', hD, hb, hrr, hk, _, hkt⟩
    have HD2 := Lib.hid (hD.mono (ok' := fun _ => True) (fun _ _ => trivial))
    have HF2 := Lib.hid hb
    have HK2 := Lib.hid (hk1.then_ hkt)
    clear hD hb hrr hk hkt hk1
    go_wp2
    go_end0
    exact ⟨rfl, _, _, F', HS.out, Nat.zero_le _, HD2.out, HF2.out, HK2.out⟩
  · have e2 : ¬ (n : Int) / 3 % 4 = 0 := by omega
    have e2' : ((n : Int) / 3 % 4 == 0) = false := by simp; omega
    obtain ⟨m, hm⟩ : ∃ m, m = 1 + n / 12 % 50 := ⟨_, rfl⟩
    have hm50 : m ≤ 50 := by omega
    have em : 1 + (n : Int) / 12 % 50 = (m : Int) := by omega
    have v1 : IntKind.i64.wrap ((n : Int) + (i : Int)) = (n : Int) + (i : Int) := by rw [IntKind.wrap_i64]; omega
    obtain ⟨x, hx⟩ : ∃ x, x = madeL ((n : Int) + (i : Int)) m := ⟨_, rfl⟩
    have hxl : x.length = m := by rw [hx, madeL_length]
    have HMd := Lib.hid (fun W => made_calls ((n : Int) + (i : Int)) m W (by omega))
    have HC := Lib.hid (show a.append f x = ((a.does ⟨f, false, 0, x⟩).1, 0) by
      unfold ADk.append
      rw [if_pos (by omega), if_neg (by rw [Int.toNat_natCast]; omega), Int.toNat_natCast, quiet_does HQ.out.1])
    have HS := Lib.hid (quiet_step HQ.out.1 (o := ⟨f, false, 0, x⟩) ⟨hf3, (fun e => by cases e), (by show x.length ≤ _; omega), (by show (a.now.get f).length ≤ _; omega)⟩)
    have HX := Lib.hid hx
    have HXL := Lib.hid (show x.length ≤ 50 by omega)
    clear hm hx hxl HR
    go_enter Try.func20, Try.ntmps20
    go_wp2_with fail
    refine (HMd.out _).mono ?_
    rintro e w1 ⟨A1, c1, he, hr, hb⟩
    rw [← HX.out] at he hr
    subst he
    have HD1 := Lib.hid (HD.out.below hb)
    have hk1 := KeptT.of_below hb
    have HR1 := Lib.hid hr
    clear hr hb
    go_wp2_with fail
    refine (HD1.out.append HF.out f A1 x c1 HC.out hN (Kd.R_reads' HR1.out).2.2 (Kd.R_reads' HR1.out).2.1 (by have := HXL.out; omega)).mono ?_
    rintro e w2 ⟨rfl, F', hD, hb, hrr, hk, _, hkt⟩
    have HD2 := Lib.hid (hD.mono (ok' := fun _ => True) (fun _ _ => trivial))
    have HF2 := Lib.hid hb
    have HK2 := Lib.hid (hk1.then_ hkt)
    clear hD hb hrr hk hkt hk1
    go_wp2
    go_end0
    exact ⟨rfl, _, _, F', HS.out, HXL.out, HD2.out, HF2.out, HK2.out⟩
theorem get_set_cases (x : Fs) (g f : Nat) (y : List Int) : (x.set g y).get f = y ∨ (x.set g y).get f = x.get f := by
  by_cases g0 : g = 0 <;> by_cases g1 : g = 1 <;> by_cases f0 : f = 0 <;> by_cases f1 : f = 1 <;> simp [Fs.set, Fs.get, *]
theorem get_set_ne (x : Fs) {g f : Nat} (hg : g < 3) (hf : f < 3) (hne : f ≠ g) (y : List Int) : (x.set g y).get f = x.get f := by
  have h1 : g = 0 ∨ g = 1 ∨ g = 2 := by omega
  have h2 : f = 0 ∨ f = 1 ∨ f = 2 := by omega
  rcases h1 with rfl | rfl | rfl <;> rcases h2 with rfl | rfl | rfl <;> first | rfl | exact absurd rfl hne
theorem Step.small {a a' : ADk} {o : AOp} {m : Nat} (h : Step a a' o) (hs : Small m a.now) (hd : o.data.length ≤ 50) : Small (m + 50) a'.now := by
  intro f
  rw [h.now]
  have h0 := hs f
  have ho := hs o.f
  have key : ∀ y : List Int, y.length ≤ m + 50 → ((a.now.set o.f y).get f).length ≤ m + 50 := by
    intro y hy
    rcases get_set_cases a.now o.f f y with e | e <;> rw [e] <;> omega
  unfold Fs.done
  split
  · exact key _ (by rw [List.length_take]; omega)
  · exact key _ (by rw [List.length_append, List.length_take]; omega)
theorem Step.get {a a' : ADk} {o : AOp} (h : Step a a' o) (f : Nat) (hf : f < 3) (hne : f ≠ o.f) : a'.now.get f = a.now.get f := by
  rw [h.now]
  unfold Fs.done
  split <;> exact get_set_ne _ h.ok.f hf hne _
end Go.Proofs.Ytfggcdpipolahaa.PF
