/- What a disk's files hold, together; one call out of a number. -/
import Derived.Test.YtfggcdpipolahaaFiMade
import Derived.Test.YtfggcdpipolahaaFiAwake
set_option linter.unusedVariables false
set_option linter.unusedSimpArgs false
namespace Go.Proofs.Ytfggcdpipolahaa.PF
open Go.RowKit Go.Proofs.YtfggcdpipolahaaW.PrintWords Go.Proofs.YtfggcdpipolahaaW.PrintLast Go.Proofs.YtfggcdpipolahaaW.PrintMore
attribute [local go_sem] max2_int min2_int max_two min_two
theorem info3s : (Try.prog.info? 38).map (·.size) = some 3 := by kernel_rfl
def Fs.strs (x : Fs) : Value := .agg #[.string (strOfNums x.a), .string (strOfNums x.b), .string (strOfNums x.c)]
def part3 (x : Fs) (k : Nat) : Array Value := #[.string (if 0 < k then strOfNums x.a else ⟨#[]⟩), .string (if 1 < k then strOfNums x.b else ⟨#[]⟩), .string (if 2 < k then strOfNums x.c else ⟨#[]⟩)]
structure AI (w : World) (g : Nat) (x : Fs) (k : Nat) (wr : World) : Prop where
  out : wr.heap[g + 1]? = some (.cells (part3 x k) 38 (0, 0))
  res : wr.heap[g]? = some (.cells (part3 x 0) 38 (0, 0))
  bel : Below w.heap.size w wr
theorem AI.set {w wr w1 : World} {g : Nat} {x : Fs} {k : Nat} (h : AI w g x k wr) (hg : w.heap.size ≤ g) (hb : Below wr.heap.size wr w1) (u : Value) (e : (part3 x k).setIfInBounds k u = part3 x (k + 1)) : AI w g x (k + 1) (w1.setCell ⟨g + 1, k, none⟩ u) :=
  ⟨by have := blk_set (blk_below h.out hb) k u; rw [e] at this; exact this, blk_far (blk_below h.res hb) (by show g ≠ g + 1; omega) _, (below_then h.bel h.bel.size hb).setCell (by show w.heap.size ≤ g + 1; omega) _⟩
set_option maxRecDepth 100000 in
set_option maxHeartbeats 4000000 in
theorem all_calls {w0 w : World} {ok : Nat → Prop} {F : Nat → Option ADk} {b : Nat} {a : ADk} {n : Nat} (h : Disks w0 w ok F n) (hF : F b = some a) (hd : a.down = false) (hn : n ≤ 1099511627776) :
    Calls Try.prog 19 #[.pointer (some ⟨b, 0, none⟩)] w fun e w' => e = .returned a.now.strs ∧ Below w.heap.size w w' := by
  have hrd : ∀ f : Nat, f < 3 → a.read f = (a.now.get f, 0) := fun f hf => by unfold ADk.read; rw [if_pos (by omega), if_neg (by rw [hd]; decide), Int.toNat_natCast]
  have HR := Lib.hid (fun (f : Nat) (hf : f < 3) (W : World) (hW : Below w.heap.size w W) => (h.below hW).read hF f (hrd f hf) hn)
  obtain ⟨x, hx⟩ : ∃ x, x = a.now := ⟨_, rfl⟩
  rw [← hx] at HR ⊢
  clear h hF hd hn hrd hx
  go_enter Try.func19, Try.ntmps19
  go_wp2
  have H : Hid (AI w w.heap.size x 0 ((w.alloc (.cells #[.string ⟨#[]⟩, .string ⟨#[]⟩, .string ⟨#[]⟩] 38)).alloc (.cells #[.string ⟨#[]⟩, .string ⟨#[]⟩, .string ⟨#[]⟩] 38))) := Lib.hid ⟨by
    rw [← World.size_alloc w (.cells #[.string ⟨#[]⟩, .string ⟨#[]⟩, .string ⟨#[]⟩] 38)]
    exact blk_new _ _, blk_alloc (blk_new _ _) _, below_alloc (below_alloc (Below.refl _ _) _) _⟩
  generalize (w.alloc (.cells #[.string ⟨#[]⟩, .string ⟨#[]⟩, .string ⟨#[]⟩] 38)).alloc (.cells #[.string ⟨#[]⟩, .string ⟨#[]⟩, .string ⟨#[]⟩] 38) = W at H ⊢
  obtain ⟨g, hg⟩ : ∃ g, g = w.heap.size := ⟨_, rfl⟩
  rw [← hg] at H ⊢
  have HG := Lib.hid (Nat.le_of_eq hg.symm)
  clear hg
  go_loopw [4] (fun v4 wr => ∃ k : Nat, k ≤ 3 ∧ v4 = .int .i64 k ∧ Hid (AI w g x k wr)) (fun v4 _ => 3 - (intOf v4).toNat)
  case atStart => exact ⟨0, by omega, rfl, H⟩
  case round =>
    clear H
    obtain ⟨k, hk, rfl, H⟩ := hrel
    match k, hk with
    | 0, _ =>
      go_wp2_with fail
      refine (HR.out 0 (by decide) _ H.out.bel).mono ?_
      rintro e w1 ⟨A1, c1, rfl, hr, hb⟩
      have hs : (convert 24 9 (.slice A1 (x.get 0).length c1)).run Try.prog w1 = .ok (.string (strOfNums (x.get 0))) w1 := str_of hr rfl
      have c0 : w1.cell? ⟨g + 1, 0, none⟩ = some (.string ⟨#[]⟩) := (blk_cell (blk_below H.out.out hb) 0).trans rfl
      have z0 : w1.frozen? ⟨g + 1, 0, none⟩ = false := blk_frozen (blk_below H.out.out hb) 0
      have HS := Lib.hid (H.out.set HG.out hb (.string (strOfNums (x.get 0))) rfl)
      clear hr hb
      go_wp2
      go_roundw
      case rel => exact ⟨1, by omega, rfl, HS⟩
      case measure => simp [intOf]
    | 1, _ =>
      go_wp2_with fail
      refine (HR.out 1 (by decide) _ H.out.bel).mono ?_
      rintro e w1 ⟨A1, c1, rfl, hr, hb⟩
      have hs : (convert 24 9 (.slice A1 (x.get 1).length c1)).run Try.prog w1 = .ok (.string (strOfNums (x.get 1))) w1 := str_of hr rfl
      have c0 : w1.cell? ⟨g + 1, 1, none⟩ = some (.string ⟨#[]⟩) := (blk_cell (blk_below H.out.out hb) 1).trans rfl
      have z0 : w1.frozen? ⟨g + 1, 1, none⟩ = false := blk_frozen (blk_below H.out.out hb) 1
      have HS := Lib.hid (H.out.set HG.out hb (.string (strOfNums (x.get 1))) rfl)
      clear hr hb
      go_wp2
      go_roundw
      case rel => exact ⟨2, by omega, rfl, HS⟩
      case measure => simp [intOf]
    | 2, _ =>
      go_wp2_with fail
      refine (HR.out 2 (by decide) _ H.out.bel).mono ?_
      rintro e w1 ⟨A1, c1, rfl, hr, hb⟩
      have hs : (convert 24 9 (.slice A1 (x.get 2).length c1)).run Try.prog w1 = .ok (.string (strOfNums (x.get 2))) w1 := str_of hr rfl
      have c0 : w1.cell? ⟨g + 1, 2, none⟩ = some (.string ⟨#[]⟩) := (blk_cell (blk_below H.out.out hb) 2).trans rfl
      have z0 : w1.frozen? ⟨g + 1, 2, none⟩ = false := blk_frozen (blk_below H.out.out hb) 2
      have HS := Lib.hid (H.out.set HG.out hb (.string (strOfNums (x.get 2))) rfl)
      clear hr hb
      go_wp2
      go_roundw
      case rel => exact ⟨3, by omega, rfl, HS⟩
      case measure => simp [intOf]
    | 3, _ =>
      have hld := run_loadVar_row (P := Try.prog) wr (g + 1) 38 38 (part3 x 3) (0, 0) _ H.out.out Try.underlying38 rfl info3s
      have HL : Hid ((Instr.loadAt 38 (.pointer (some ⟨g + 1, 0, none⟩))).run Try.prog wr = .ok (.agg #[.string (strOfNums x.a), .string (strOfNums x.b), .string (strOfNums x.c)]) wr) := Lib.hid (by simp only [Instr.loadAt, Instr.sureAddr, Sem.run_bind, Sem.run_pure, Result.andThen_ok, hld]; rfl)
      clear hld
      go_wp2_with (first | (refine wl_load 38 (.tmp 3) rfl rfl _ _ rfl HL.out ?_) | (refine wl_store 38 (.tmp 2) (.tmp 21) rfl rfl rfl rfl H.out.res info3s rfl (by simp [Value.oneCell']) ?_))
      refine bodyPost_ret (results_cell_row rfl _ _ g 38 #[.string (strOfNums x.a), .string (strOfNums x.b), .string (strOfNums x.c)] (0, 0) _ rfl (setRow_heap _ _ _ _ _ _ H.out.res) Try.underlying38 rfl info3s) rfl ?_
      exact ⟨rfl, below_setRow H.out.bel HG.out _⟩
end Go.Proofs.Ytfggcdpipolahaa.PF
