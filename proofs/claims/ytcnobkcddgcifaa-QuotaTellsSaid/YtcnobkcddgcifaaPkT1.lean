/- Texts of this claim, laid together: PTx0, Gen, Tree, Quota, QuotaP, PTx15, PTx16, Ev, TreeB, PTx5, PTx6, PTx7, PTx10, PTx11, PTx12. -/
import Derived.Test.YtcnobkcddgcifaaProg
import Derived.Below
import Derived.Deep.Draws
import Derived.Deep.AppendLies
import Derived.Maps.AppendAt
import Derived.OwnWalk
import Derived.Laws.BytesArg
import Derived.Laws.MakeOwn
import Derived.Laws.OwnMore
import Derived.Deep.OwnRows
import Derived.Tactics
import Derived.Lib.ConvBytes
import Derived.Laws.Slices
import Derived.WalkKit
import Derived.KernelRfl
import Derived.RowKit3
import Derived.Deep.LoopGhost
import Derived.Deep.QuietTactic
import Derived.BigQuiet
import Derived.WideLaws
import Derived.Deep.DeepCutAuto
import Derived.Deep.CutBlock
import Derived.Deep.RegionHeld3
import Derived.Laws.Rows
import Derived.Lib.AppendStr
import Derived.ArgAppend
import Derived.Laws.IdiomCopy
import Derived.OrdersHeld
import Derived.Laws.BitsLemmas
import Derived.RowKit
import Derived.Lib.Hide
import Derived.Lib.SliceRun
import Derived.Laws.EntriesVeiled
import Derived.Shelf.Abstract
import Derived.Lib.OthersKept
import Derived.Lib.TrimU
import Derived.Test.YtcnobkcddgcifaaPkT0
-- printed by wprint.py (this session's program over the kit's print.py)
namespace Go.Proofs.Ytcnobkcddgcifaa.PT
open Go.RowKit Go.Proofs.YtcnobkcddgcifaaW.PrintWords Go.Proofs.YtcnobkcddgcifaaW.PrintLast Go.Proofs.YtcnobkcddgcifaaW.PrintMore
attribute [local go_sem] max2_int min2_int max_two min_two max_three min_three max_four min_four   -- for this text's walks alone
set_option linter.unusedVariables false
set_option linter.unusedSimpArgs false



def errW : Option Int → Value
  | none => .nilIface
  | some c => .iface 0 (.int .i64 c)
theorem errW_none : errW none = .nilIface := rfl
theorem errW_some (c : Int) : errW (some c) = .iface 0 (.int .i64 c) := rfl

theorem info3 : (Try.prog.info? 3).map (fun i => (i.zero, i.size, i.bytes)) = some (some (.int .i64 0), 1, 8) := by kernel_rfl
theorem info9 : (Try.prog.info? 9).map (fun i => (i.zero, i.size, i.bytes)) = some (some (.string ⟨#[]⟩), 1, 16) := by kernel_rfl
theorem info53 : (Try.prog.info? 53).map (fun i => (i.zero, i.size, i.bytes)) = some (some (.agg #[(.int .i64 0), (.int .i64 0), (.int .i64 0), (.string ⟨#[]⟩), (.string ⟨#[]⟩), (.string ⟨#[]⟩), (.string ⟨#[]⟩), (.int .i64 0), (.int .i64 0), (.int .i64 0), (.slice none 0 0), (.int .u8 0), (.int .i64 0), (.int .i64 0), (.int .i64 0), (.int .u32 0), (.int .i64 0)]), 17, 184) := by kernel_rfl
theorem info57 : (Try.prog.info? 57).map (fun i => (i.zero, i.size, i.bytes)) = some (some (.agg #[(.string ⟨#[]⟩), (.string ⟨#[]⟩), (.int .i64 0)]), 3, 40) := by kernel_rfl
theorem info59 : (Try.prog.info? 59).map (fun i => (i.zero, i.size, i.bytes)) = some (some (.agg #[(.string ⟨#[]⟩), (.int .i64 0), (.int .i64 0), (.int .i64 0)]), 4, 40) := by kernel_rfl
theorem info87 : (Try.prog.info? 87).map (fun i => (i.zero, i.size, i.bytes)) = some (some (.agg #[(.string ⟨#[]⟩), (.int .u32 0), (.int .i64 0), (.int .i64 0), (.slice none 0 0)]), 5, 64) := by kernel_rfl
theorem info112 : (Try.prog.info? 112).map (fun i => (i.zero, i.size, i.bytes)) = some (some (.agg #[(.int .u8 0), (.int .i64 0)]), 2, 16) := by kernel_rfl
-- the values' own types
/-! #### struct type 112 -/
structure S112 where
  f0 : Int
  f1 : Int
def z112 : S112 := ⟨(0 : Int), (0 : Int)⟩
def k112 : Kd S112 := Kd.iso (Kd.pair (Kd.int .u8) (Kd.int .i64)) (fun x : S112 => (x.f0, x.f1))
theorem k112_open {w : World} {x : S112} {cs : List Value} (h : k112.K w x cs) : cs = [.int .u8 x.f0, .int .i64 x.f1] := by
  obtain ⟨_, _, rfl, rfl, rfl⟩ := h
  exact rfl
theorem k112_mkM (w : World) (base : Nat) (ok : Nat → Prop) (x : S112)  : k112.M w base ok x [.int .u8 x.f0, .int .i64 x.f1] := ⟨[.int .u8 x.f0], [.int .i64 x.f1], rfl, rfl, rfl⟩
def rd_T112 (xs : List S112) (i : Int) : S112 := xs.getD i.toNat z112
theorem at_T112 {w : World} {A : Option Addr} {n : Nat} {xs : List S112} (h : Kd.C k112 w A n xs) (i : Int) (h0 : 0 ≤ i) (h1 : i < n) : ∃ ad , A = some ad ∧ w.cell? (ad.add (i.toNat * 2)) = some (.int .u8 (rd_T112 xs i).f0) ∧ w.cell? ⟨(ad.add (i.toNat * 2)).block, (ad.add (i.toNat * 2)).off + 1, none⟩ = some (.int .i64 (rd_T112 xs i).f1) := by
  obtain ⟨ad, c, e, _, hK, hc0⟩ := Kd.C_get h z112 i h0 h1
  have hc : ∀ j u, c[j]? = some u → w.cell? (ad.add (i.toNat * 2 + j)) = some u := hc0
  obtain rfl := k112_open hK
  exact ⟨ad, e, hc 0 _ rfl, by rw [← add_field _ _ 1 (by omega)]; exact hc 1 _ rfl⟩

/-! #### struct type 32 -/
structure S32 where
  f0 : ByteArray
  f1 : ByteArray
  f2 : ByteArray
  f3 : ByteArray
  f4 : Int
  f5 : Int
  f6 : Int
  f7 : (List S112)
def z32 : S32 := ⟨(⟨#[]⟩ : ByteArray), (⟨#[]⟩ : ByteArray), (⟨#[]⟩ : ByteArray), (⟨#[]⟩ : ByteArray), (0 : Int), (0 : Int), (0 : Int), ([] : List S112)⟩
def k32 : Kd S32 := Kd.iso (Kd.pair Kd.string (Kd.pair Kd.string (Kd.pair Kd.string (Kd.pair Kd.string (Kd.pair (Kd.int .i64) (Kd.pair (Kd.int .i64) (Kd.pair (Kd.int .i64) (Kd.slice 112 k112)))))))) (fun x : S32 => (x.f0, x.f1, x.f2, x.f3, x.f4, x.f5, x.f6, x.f7))
theorem k32_open {w : World} {x : S32} {cs : List Value} (h : k32.K w x cs) : ∃ A7 c7, cs = [.string x.f0, .string x.f1, .string x.f2, .string x.f3, .int .i64 x.f4, .int .i64 x.f5, .int .i64 x.f6, .slice A7 x.f7.length c7] ∧ x.f7.length ≤ c7 ∧ k112.C w A7 x.f7.length x.f7 := by
  obtain ⟨_, _, rfl, rfl, ⟨_, _, rfl, rfl, ⟨_, _, rfl, rfl, ⟨_, _, rfl, rfl, ⟨_, _, rfl, rfl, ⟨_, _, rfl, rfl, ⟨_, _, rfl, rfl, ⟨A7, c7, rfl, l7, g7⟩⟩⟩⟩⟩⟩⟩⟩ := h
  exact ⟨A7, c7, rfl, l7, g7⟩
theorem k32_mk (w : World) (x : S32) {A7 : Option Addr} {c7 : Nat} (l7 : x.f7.length ≤ c7) (g7 : k112.C w A7 x.f7.length x.f7) : k32.K w x [.string x.f0, .string x.f1, .string x.f2, .string x.f3, .int .i64 x.f4, .int .i64 x.f5, .int .i64 x.f6, .slice A7 x.f7.length c7] := ⟨[.string x.f0], [.string x.f1, .string x.f2, .string x.f3, .int .i64 x.f4, .int .i64 x.f5, .int .i64 x.f6, .slice A7 x.f7.length c7], rfl, rfl, ⟨[.string x.f1], [.string x.f2, .string x.f3, .int .i64 x.f4, .int .i64 x.f5, .int .i64 x.f6, .slice A7 x.f7.length c7], rfl, rfl, ⟨[.string x.f2], [.string x.f3, .int .i64 x.f4, .int .i64 x.f5, .int .i64 x.f6, .slice A7 x.f7.length c7], rfl, rfl, ⟨[.string x.f3], [.int .i64 x.f4, .int .i64 x.f5, .int .i64 x.f6, .slice A7 x.f7.length c7], rfl, rfl, ⟨[.int .i64 x.f4], [.int .i64 x.f5, .int .i64 x.f6, .slice A7 x.f7.length c7], rfl, rfl, ⟨[.int .i64 x.f5], [.int .i64 x.f6, .slice A7 x.f7.length c7], rfl, rfl, ⟨[.int .i64 x.f6], [.slice A7 x.f7.length c7], rfl, rfl, ⟨A7, c7, rfl, l7, g7⟩⟩⟩⟩⟩⟩⟩⟩
theorem k32_mkM (w : World) (base : Nat) (ok : Nat → Prop) (x : S32) {v7 : Value} (g7 : k112.R 112 w base ok v7 x.f7) : k32.M w base ok x [.string x.f0, .string x.f1, .string x.f2, .string x.f3, .int .i64 x.f4, .int .i64 x.f5, .int .i64 x.f6, v7] := ⟨[.string x.f0], [.string x.f1, .string x.f2, .string x.f3, .int .i64 x.f4, .int .i64 x.f5, .int .i64 x.f6, v7], rfl, rfl, ⟨[.string x.f1], [.string x.f2, .string x.f3, .int .i64 x.f4, .int .i64 x.f5, .int .i64 x.f6, v7], rfl, rfl, ⟨[.string x.f2], [.string x.f3, .int .i64 x.f4, .int .i64 x.f5, .int .i64 x.f6, v7], rfl, rfl, ⟨[.string x.f3], [.int .i64 x.f4, .int .i64 x.f5, .int .i64 x.f6, v7], rfl, rfl, ⟨[.int .i64 x.f4], [.int .i64 x.f5, .int .i64 x.f6, v7], rfl, rfl, ⟨[.int .i64 x.f5], [.int .i64 x.f6, v7], rfl, rfl, ⟨[.int .i64 x.f6], [v7], rfl, rfl, ⟨v7, rfl, g7⟩⟩⟩⟩⟩⟩⟩⟩
/-! #### struct type 53 -/
structure S53 where
  f0 : Int
  f1 : Int
  f2 : Int
  f3 : S32
  f4 : Int
  f5 : Int
  f6 : Int
  f7 : Int
  f8 : Int
  f9 : Int
def z53 : S53 := ⟨(0 : Int), (0 : Int), (0 : Int), z32, (0 : Int), (0 : Int), (0 : Int), (0 : Int), (0 : Int), (0 : Int)⟩
def k53 : Kd S53 := Kd.iso (Kd.pair (Kd.int .i64) (Kd.pair (Kd.int .i64) (Kd.pair (Kd.int .i64) (Kd.pair k32 (Kd.pair (Kd.int .u8) (Kd.pair (Kd.int .i64) (Kd.pair (Kd.int .i64) (Kd.pair (Kd.int .i64) (Kd.pair (Kd.int .u32) (Kd.int .i64)))))))))) (fun x : S53 => (x.f0, x.f1, x.f2, x.f3, x.f4, x.f5, x.f6, x.f7, x.f8, x.f9))
theorem k53_open {w : World} {x : S53} {cs : List Value} (h : k53.K w x cs) : ∃ A10 c10, cs = [.int .i64 x.f0, .int .i64 x.f1, .int .i64 x.f2, .string x.f3.f0, .string x.f3.f1, .string x.f3.f2, .string x.f3.f3, .int .i64 x.f3.f4, .int .i64 x.f3.f5, .int .i64 x.f3.f6, .slice A10 x.f3.f7.length c10, .int .u8 x.f4, .int .i64 x.f5, .int .i64 x.f6, .int .i64 x.f7, .int .u32 x.f8, .int .i64 x.f9] ∧ x.f3.f7.length ≤ c10 ∧ k112.C w A10 x.f3.f7.length x.f3.f7 := by
  obtain ⟨_, _, rfl, rfl, ⟨_, _, rfl, rfl, ⟨_, _, rfl, rfl, ⟨_, _, rfl, s3, ⟨_, _, rfl, rfl, ⟨_, _, rfl, rfl, ⟨_, _, rfl, rfl, ⟨_, _, rfl, rfl, ⟨_, _, rfl, rfl, rfl⟩⟩⟩⟩⟩⟩⟩⟩⟩ := h
  obtain ⟨A10, c10, rfl, l10, g10⟩ := k32_open s3
  exact ⟨A10, c10, rfl, l10, g10⟩
theorem k53_mk (w : World) (x : S53) {A10 : Option Addr} {c10 : Nat} (l10 : x.f3.f7.length ≤ c10) (g10 : k112.C w A10 x.f3.f7.length x.f3.f7) : k53.K w x [.int .i64 x.f0, .int .i64 x.f1, .int .i64 x.f2, .string x.f3.f0, .string x.f3.f1, .string x.f3.f2, .string x.f3.f3, .int .i64 x.f3.f4, .int .i64 x.f3.f5, .int .i64 x.f3.f6, .slice A10 x.f3.f7.length c10, .int .u8 x.f4, .int .i64 x.f5, .int .i64 x.f6, .int .i64 x.f7, .int .u32 x.f8, .int .i64 x.f9] := ⟨[.int .i64 x.f0], [.int .i64 x.f1, .int .i64 x.f2, .string x.f3.f0, .string x.f3.f1, .string x.f3.f2, .string x.f3.f3, .int .i64 x.f3.f4, .int .i64 x.f3.f5, .int .i64 x.f3.f6, .slice A10 x.f3.f7.length c10, .int .u8 x.f4, .int .i64 x.f5, .int .i64 x.f6, .int .i64 x.f7, .int .u32 x.f8, .int .i64 x.f9], rfl, rfl, ⟨[.int .i64 x.f1], [.int .i64 x.f2, .string x.f3.f0, .string x.f3.f1, .string x.f3.f2, .string x.f3.f3, .int .i64 x.f3.f4, .int .i64 x.f3.f5, .int .i64 x.f3.f6, .slice A10 x.f3.f7.length c10, .int .u8 x.f4, .int .i64 x.f5, .int .i64 x.f6, .int .i64 x.f7, .int .u32 x.f8, .int .i64 x.f9], rfl, rfl, ⟨[.int .i64 x.f2], [.string x.f3.f0, .string x.f3.f1, .string x.f3.f2, .string x.f3.f3, .int .i64 x.f3.f4, .int .i64 x.f3.f5, .int .i64 x.f3.f6, .slice A10 x.f3.f7.length c10, .int .u8 x.f4, .int .i64 x.f5, .int .i64 x.f6, .int .i64 x.f7, .int .u32 x.f8, .int .i64 x.f9], rfl, rfl, ⟨[.string x.f3.f0, .string x.f3.f1, .string x.f3.f2, .string x.f3.f3, .int .i64 x.f3.f4, .int .i64 x.f3.f5, .int .i64 x.f3.f6, .slice A10 x.f3.f7.length c10], [.int .u8 x.f4, .int .i64 x.f5, .int .i64 x.f6, .int .i64 x.f7, .int .u32 x.f8, .int .i64 x.f9], rfl, (k32_mk w x.f3 l10 g10), ⟨[.int .u8 x.f4], [.int .i64 x.f5, .int .i64 x.f6, .int .i64 x.f7, .int .u32 x.f8, .int .i64 x.f9], rfl, rfl, ⟨[.int .i64 x.f5], [.int .i64 x.f6, .int .i64 x.f7, .int .u32 x.f8, .int .i64 x.f9], rfl, rfl, ⟨[.int .i64 x.f6], [.int .i64 x.f7, .int .u32 x.f8, .int .i64 x.f9], rfl, rfl, ⟨[.int .i64 x.f7], [.int .u32 x.f8, .int .i64 x.f9], rfl, rfl, ⟨[.int .u32 x.f8], [.int .i64 x.f9], rfl, rfl, rfl⟩⟩⟩⟩⟩⟩⟩⟩⟩
theorem k53_mkM (w : World) (base : Nat) (ok : Nat → Prop) (x : S53) {v10 : Value} (g10 : k112.R 112 w base ok v10 x.f3.f7) : k53.M w base ok x [.int .i64 x.f0, .int .i64 x.f1, .int .i64 x.f2, .string x.f3.f0, .string x.f3.f1, .string x.f3.f2, .string x.f3.f3, .int .i64 x.f3.f4, .int .i64 x.f3.f5, .int .i64 x.f3.f6, v10, .int .u8 x.f4, .int .i64 x.f5, .int .i64 x.f6, .int .i64 x.f7, .int .u32 x.f8, .int .i64 x.f9] := ⟨[.int .i64 x.f0], [.int .i64 x.f1, .int .i64 x.f2, .string x.f3.f0, .string x.f3.f1, .string x.f3.f2, .string x.f3.f3, .int .i64 x.f3.f4, .int .i64 x.f3.f5, .int .i64 x.f3.f6, v10, .int .u8 x.f4, .int .i64 x.f5, .int .i64 x.f6, .int .i64 x.f7, .int .u32 x.f8, .int .i64 x.f9], rfl, rfl, ⟨[.int .i64 x.f1], [.int .i64 x.f2, .string x.f3.f0, .string x.f3.f1, .string x.f3.f2, .string x.f3.f3, .int .i64 x.f3.f4, .int .i64 x.f3.f5, .int .i64 x.f3.f6, v10, .int .u8 x.f4, .int .i64 x.f5, .int .i64 x.f6, .int .i64 x.f7, .int .u32 x.f8, .int .i64 x.f9], rfl, rfl, ⟨[.int .i64 x.f2], [.string x.f3.f0, .string x.f3.f1, .string x.f3.f2, .string x.f3.f3, .int .i64 x.f3.f4, .int .i64 x.f3.f5, .int .i64 x.f3.f6, v10, .int .u8 x.f4, .int .i64 x.f5, .int .i64 x.f6, .int .i64 x.f7, .int .u32 x.f8, .int .i64 x.f9], rfl, rfl, ⟨[.string x.f3.f0, .string x.f3.f1, .string x.f3.f2, .string x.f3.f3, .int .i64 x.f3.f4, .int .i64 x.f3.f5, .int .i64 x.f3.f6, v10], [.int .u8 x.f4, .int .i64 x.f5, .int .i64 x.f6, .int .i64 x.f7, .int .u32 x.f8, .int .i64 x.f9], rfl, (k32_mkM w base ok x.f3 g10), ⟨[.int .u8 x.f4], [.int .i64 x.f5, .int .i64 x.f6, .int .i64 x.f7, .int .u32 x.f8, .int .i64 x.f9], rfl, rfl, ⟨[.int .i64 x.f5], [.int .i64 x.f6, .int .i64 x.f7, .int .u32 x.f8, .int .i64 x.f9], rfl, rfl, ⟨[.int .i64 x.f6], [.int .i64 x.f7, .int .u32 x.f8, .int .i64 x.f9], rfl, rfl, ⟨[.int .i64 x.f7], [.int .u32 x.f8, .int .i64 x.f9], rfl, rfl, ⟨[.int .u32 x.f8], [.int .i64 x.f9], rfl, rfl, rfl⟩⟩⟩⟩⟩⟩⟩⟩⟩
def rd_T53 (xs : List S53) (i : Int) : S53 := xs.getD i.toNat z53
theorem at_T53 {w : World} {A : Option Addr} {n : Nat} {xs : List S53} (h : Kd.C k53 w A n xs) (i : Int) (h0 : 0 ≤ i) (h1 : i < n) : ∃ ad A10 c10, A = some ad ∧ w.cell? (ad.add (i.toNat * 17)) = some (.int .i64 (rd_T53 xs i).f0) ∧ w.cell? ⟨(ad.add (i.toNat * 17)).block, (ad.add (i.toNat * 17)).off + 1, none⟩ = some (.int .i64 (rd_T53 xs i).f1) ∧ w.cell? ⟨(ad.add (i.toNat * 17)).block, (ad.add (i.toNat * 17)).off + 2, none⟩ = some (.int .i64 (rd_T53 xs i).f2) ∧ w.cell? ⟨(ad.add (i.toNat * 17)).block, (ad.add (i.toNat * 17)).off + 3, none⟩ = some (.string (rd_T53 xs i).f3.f0) ∧ w.cell? ⟨(ad.add (i.toNat * 17)).block, (ad.add (i.toNat * 17)).off + 4, none⟩ = some (.string (rd_T53 xs i).f3.f1) ∧ w.cell? ⟨(ad.add (i.toNat * 17)).block, (ad.add (i.toNat * 17)).off + 5, none⟩ = some (.string (rd_T53 xs i).f3.f2) ∧ w.cell? ⟨(ad.add (i.toNat * 17)).block, (ad.add (i.toNat * 17)).off + 6, none⟩ = some (.string (rd_T53 xs i).f3.f3) ∧ w.cell? ⟨(ad.add (i.toNat * 17)).block, (ad.add (i.toNat * 17)).off + 7, none⟩ = some (.int .i64 (rd_T53 xs i).f3.f4) ∧ w.cell? ⟨(ad.add (i.toNat * 17)).block, (ad.add (i.toNat * 17)).off + 8, none⟩ = some (.int .i64 (rd_T53 xs i).f3.f5) ∧ w.cell? ⟨(ad.add (i.toNat * 17)).block, (ad.add (i.toNat * 17)).off + 9, none⟩ = some (.int .i64 (rd_T53 xs i).f3.f6) ∧ w.cell? ⟨(ad.add (i.toNat * 17)).block, (ad.add (i.toNat * 17)).off + 10, none⟩ = some (.slice A10 (rd_T53 xs i).f3.f7.length c10) ∧ w.cell? ⟨(ad.add (i.toNat * 17)).block, (ad.add (i.toNat * 17)).off + 11, none⟩ = some (.int .u8 (rd_T53 xs i).f4) ∧ w.cell? ⟨(ad.add (i.toNat * 17)).block, (ad.add (i.toNat * 17)).off + 12, none⟩ = some (.int .i64 (rd_T53 xs i).f5) ∧ w.cell? ⟨(ad.add (i.toNat * 17)).block, (ad.add (i.toNat * 17)).off + 13, none⟩ = some (.int .i64 (rd_T53 xs i).f6) ∧ w.cell? ⟨(ad.add (i.toNat * 17)).block, (ad.add (i.toNat * 17)).off + 14, none⟩ = some (.int .i64 (rd_T53 xs i).f7) ∧ w.cell? ⟨(ad.add (i.toNat * 17)).block, (ad.add (i.toNat * 17)).off + 15, none⟩ = some (.int .u32 (rd_T53 xs i).f8) ∧ w.cell? ⟨(ad.add (i.toNat * 17)).block, (ad.add (i.toNat * 17)).off + 16, none⟩ = some (.int .i64 (rd_T53 xs i).f9) ∧ (rd_T53 xs i).f3.f7.length ≤ c10 ∧ k112.C w A10 (rd_T53 xs i).f3.f7.length (rd_T53 xs i).f3.f7 := by
  obtain ⟨ad, c, e, _, hK, hc0⟩ := Kd.C_get h z53 i h0 h1
  have hc : ∀ j u, c[j]? = some u → w.cell? (ad.add (i.toNat * 17 + j)) = some u := hc0
  obtain ⟨A10, c10, rfl, l10, g10⟩ := k53_open hK
  exact ⟨ad, A10, c10, e, hc 0 _ rfl, by rw [← add_field _ _ 1 (by omega)]; exact hc 1 _ rfl, by rw [← add_field _ _ 2 (by omega)]; exact hc 2 _ rfl, by rw [← add_field _ _ 3 (by omega)]; exact hc 3 _ rfl, by rw [← add_field _ _ 4 (by omega)]; exact hc 4 _ rfl, by rw [← add_field _ _ 5 (by omega)]; exact hc 5 _ rfl, by rw [← add_field _ _ 6 (by omega)]; exact hc 6 _ rfl, by rw [← add_field _ _ 7 (by omega)]; exact hc 7 _ rfl, by rw [← add_field _ _ 8 (by omega)]; exact hc 8 _ rfl, by rw [← add_field _ _ 9 (by omega)]; exact hc 9 _ rfl, by rw [← add_field _ _ 10 (by omega)]; exact hc 10 _ rfl, by rw [← add_field _ _ 11 (by omega)]; exact hc 11 _ rfl, by rw [← add_field _ _ 12 (by omega)]; exact hc 12 _ rfl, by rw [← add_field _ _ 13 (by omega)]; exact hc 13 _ rfl, by rw [← add_field _ _ 14 (by omega)]; exact hc 14 _ rfl, by rw [← add_field _ _ 15 (by omega)]; exact hc 15 _ rfl, by rw [← add_field _ _ 16 (by omega)]; exact hc 16 _ rfl, l10, g10⟩

/-! #### struct type 57 -/
structure S57 where
  f0 : ByteArray
  f1 : ByteArray
  f2 : Int
def z57 : S57 := ⟨(⟨#[]⟩ : ByteArray), (⟨#[]⟩ : ByteArray), (0 : Int)⟩
def k57 : Kd S57 := Kd.iso (Kd.pair Kd.string (Kd.pair Kd.string (Kd.int .i64))) (fun x : S57 => (x.f0, x.f1, x.f2))
theorem k57_open {w : World} {x : S57} {cs : List Value} (h : k57.K w x cs) : cs = [.string x.f0, .string x.f1, .int .i64 x.f2] := by
  obtain ⟨_, _, rfl, rfl, ⟨_, _, rfl, rfl, rfl⟩⟩ := h
  exact rfl
theorem k57_mk (w : World) (x : S57)  : k57.K w x [.string x.f0, .string x.f1, .int .i64 x.f2] := ⟨[.string x.f0], [.string x.f1, .int .i64 x.f2], rfl, rfl, ⟨[.string x.f1], [.int .i64 x.f2], rfl, rfl, rfl⟩⟩
theorem k57_mkM (w : World) (base : Nat) (ok : Nat → Prop) (x : S57)  : k57.M w base ok x [.string x.f0, .string x.f1, .int .i64 x.f2] := ⟨[.string x.f0], [.string x.f1, .int .i64 x.f2], rfl, rfl, ⟨[.string x.f1], [.int .i64 x.f2], rfl, rfl, rfl⟩⟩
def rd_T57 (xs : List S57) (i : Int) : S57 := xs.getD i.toNat z57
theorem at_T57 {w : World} {A : Option Addr} {n : Nat} {xs : List S57} (h : Kd.C k57 w A n xs) (i : Int) (h0 : 0 ≤ i) (h1 : i < n) : ∃ ad , A = some ad ∧ w.cell? (ad.add (i.toNat * 3)) = some (.string (rd_T57 xs i).f0) ∧ w.cell? ⟨(ad.add (i.toNat * 3)).block, (ad.add (i.toNat * 3)).off + 1, none⟩ = some (.string (rd_T57 xs i).f1) ∧ w.cell? ⟨(ad.add (i.toNat * 3)).block, (ad.add (i.toNat * 3)).off + 2, none⟩ = some (.int .i64 (rd_T57 xs i).f2) := by
  obtain ⟨ad, c, e, _, hK, hc0⟩ := Kd.C_get h z57 i h0 h1
  have hc : ∀ j u, c[j]? = some u → w.cell? (ad.add (i.toNat * 3 + j)) = some u := hc0
  obtain rfl := k57_open hK
  exact ⟨ad, e, hc 0 _ rfl, by rw [← add_field _ _ 1 (by omega)]; exact hc 1 _ rfl, by rw [← add_field _ _ 2 (by omega)]; exact hc 2 _ rfl⟩

/-! #### struct type 87 -/
structure S87 where
  f0 : ByteArray
  f1 : Int
  f2 : Int
  f3 : Int
  f4 : (List ByteArray)
def z87 : S87 := ⟨(⟨#[]⟩ : ByteArray), (0 : Int), (0 : Int), (0 : Int), ([] : List ByteArray)⟩
def k87 : Kd S87 := Kd.iso (Kd.pair Kd.string (Kd.pair (Kd.int .u32) (Kd.pair (Kd.int .i64) (Kd.pair (Kd.int .i64) (Kd.slice 9 Kd.string))))) (fun x : S87 => (x.f0, x.f1, x.f2, x.f3, x.f4))
theorem k87_open {w : World} {x : S87} {cs : List Value} (h : k87.K w x cs) : ∃ A4 c4, cs = [.string x.f0, .int .u32 x.f1, .int .i64 x.f2, .int .i64 x.f3, .slice A4 x.f4.length c4] ∧ x.f4.length ≤ c4 ∧ Kd.string.C w A4 x.f4.length x.f4 := by
  obtain ⟨_, _, rfl, rfl, ⟨_, _, rfl, rfl, ⟨_, _, rfl, rfl, ⟨_, _, rfl, rfl, ⟨A4, c4, rfl, l4, g4⟩⟩⟩⟩⟩ := h
  exact ⟨A4, c4, rfl, l4, g4⟩
theorem k87_mkM (w : World) (base : Nat) (ok : Nat → Prop) (x : S87) {v4 : Value} (g4 : Kd.string.R 9 w base ok v4 x.f4) : k87.M w base ok x [.string x.f0, .int .u32 x.f1, .int .i64 x.f2, .int .i64 x.f3, v4] := ⟨[.string x.f0], [.int .u32 x.f1, .int .i64 x.f2, .int .i64 x.f3, v4], rfl, rfl, ⟨[.int .u32 x.f1], [.int .i64 x.f2, .int .i64 x.f3, v4], rfl, rfl, ⟨[.int .i64 x.f2], [.int .i64 x.f3, v4], rfl, rfl, ⟨[.int .i64 x.f3], [v4], rfl, rfl, ⟨v4, rfl, g4⟩⟩⟩⟩⟩
def rd_T87 (xs : List S87) (i : Int) : S87 := xs.getD i.toNat z87
theorem at_T87 {w : World} {A : Option Addr} {n : Nat} {xs : List S87} (h : Kd.C k87 w A n xs) (i : Int) (h0 : 0 ≤ i) (h1 : i < n) : ∃ ad A4 c4, A = some ad ∧ w.cell? (ad.add (i.toNat * 5)) = some (.string (rd_T87 xs i).f0) ∧ w.cell? ⟨(ad.add (i.toNat * 5)).block, (ad.add (i.toNat * 5)).off + 1, none⟩ = some (.int .u32 (rd_T87 xs i).f1) ∧ w.cell? ⟨(ad.add (i.toNat * 5)).block, (ad.add (i.toNat * 5)).off + 2, none⟩ = some (.int .i64 (rd_T87 xs i).f2) ∧ w.cell? ⟨(ad.add (i.toNat * 5)).block, (ad.add (i.toNat * 5)).off + 3, none⟩ = some (.int .i64 (rd_T87 xs i).f3) ∧ w.cell? ⟨(ad.add (i.toNat * 5)).block, (ad.add (i.toNat * 5)).off + 4, none⟩ = some (.slice A4 (rd_T87 xs i).f4.length c4) ∧ (rd_T87 xs i).f4.length ≤ c4 ∧ Kd.string.C w A4 (rd_T87 xs i).f4.length (rd_T87 xs i).f4 := by
  obtain ⟨ad, c, e, _, hK, hc0⟩ := Kd.C_get h z87 i h0 h1
  have hc : ∀ j u, c[j]? = some u → w.cell? (ad.add (i.toNat * 5 + j)) = some u := hc0
  obtain ⟨A4, c4, rfl, l4, g4⟩ := k87_open hK
  exact ⟨ad, A4, c4, e, hc 0 _ rfl, by rw [← add_field _ _ 1 (by omega)]; exact hc 1 _ rfl, by rw [← add_field _ _ 2 (by omega)]; exact hc 2 _ rfl, by rw [← add_field _ _ 3 (by omega)]; exact hc 3 _ rfl, by rw [← add_field _ _ 4 (by omega)]; exact hc 4 _ rfl, l4, g4⟩

/-! #### struct type 59 -/
structure S59 where
  f0 : ByteArray
  f1 : Int
  f2 : Int
  f3 : Int
def z59 : S59 := ⟨(⟨#[]⟩ : ByteArray), (0 : Int), (0 : Int), (0 : Int)⟩
def k59 : Kd S59 := Kd.iso (Kd.pair Kd.string (Kd.pair (Kd.int .i64) (Kd.pair (Kd.int .i64) (Kd.int .i64)))) (fun x : S59 => (x.f0, x.f1, x.f2, x.f3))
theorem k59_open {w : World} {x : S59} {cs : List Value} (h : k59.K w x cs) : cs = [.string x.f0, .int .i64 x.f1, .int .i64 x.f2, .int .i64 x.f3] := by
  obtain ⟨_, _, rfl, rfl, ⟨_, _, rfl, rfl, ⟨_, _, rfl, rfl, rfl⟩⟩⟩ := h
  exact rfl
theorem k59_mk (w : World) (x : S59)  : k59.K w x [.string x.f0, .int .i64 x.f1, .int .i64 x.f2, .int .i64 x.f3] := ⟨[.string x.f0], [.int .i64 x.f1, .int .i64 x.f2, .int .i64 x.f3], rfl, rfl, ⟨[.int .i64 x.f1], [.int .i64 x.f2, .int .i64 x.f3], rfl, rfl, ⟨[.int .i64 x.f2], [.int .i64 x.f3], rfl, rfl, rfl⟩⟩⟩
theorem k59_mkM (w : World) (base : Nat) (ok : Nat → Prop) (x : S59)  : k59.M w base ok x [.string x.f0, .int .i64 x.f1, .int .i64 x.f2, .int .i64 x.f3] := ⟨[.string x.f0], [.int .i64 x.f1, .int .i64 x.f2, .int .i64 x.f3], rfl, rfl, ⟨[.int .i64 x.f1], [.int .i64 x.f2, .int .i64 x.f3], rfl, rfl, ⟨[.int .i64 x.f2], [.int .i64 x.f3], rfl, rfl, rfl⟩⟩⟩
def rd_T59 (xs : List S59) (i : Int) : S59 := xs.getD i.toNat z59
theorem at_T59 {w : World} {A : Option Addr} {n : Nat} {xs : List S59} (h : Kd.C k59 w A n xs) (i : Int) (h0 : 0 ≤ i) (h1 : i < n) : ∃ ad , A = some ad ∧ w.cell? (ad.add (i.toNat * 4)) = some (.string (rd_T59 xs i).f0) ∧ w.cell? ⟨(ad.add (i.toNat * 4)).block, (ad.add (i.toNat * 4)).off + 1, none⟩ = some (.int .i64 (rd_T59 xs i).f1) ∧ w.cell? ⟨(ad.add (i.toNat * 4)).block, (ad.add (i.toNat * 4)).off + 2, none⟩ = some (.int .i64 (rd_T59 xs i).f2) ∧ w.cell? ⟨(ad.add (i.toNat * 4)).block, (ad.add (i.toNat * 4)).off + 3, none⟩ = some (.int .i64 (rd_T59 xs i).f3) := by
  obtain ⟨ad, c, e, _, hK, hc0⟩ := Kd.C_get h z59 i h0 h1
  have hc : ∀ j u, c[j]? = some u → w.cell? (ad.add (i.toNat * 4 + j)) = some u := hc0
  obtain rfl := k59_open hK
  exact ⟨ad, e, hc 0 _ rfl, by rw [← add_field _ _ 1 (by omega)]; exact hc 1 _ rfl, by rw [← add_field _ _ 2 (by omega)]; exact hc 2 _ rfl, by rw [← add_field _ _ 3 (by omega)]; exact hc 3 _ rfl⟩

/-! #### struct type 28 -/
structure S28 where
  f0 : (List Int)
  f1 : (List S87)
  f2 : (List S57)
  f3 : (List S59)
  f4 : Int
def z28 : S28 := ⟨([] : List Int), ([] : List S87), ([] : List S57), ([] : List S59), (0 : Int)⟩
def k28 : Kd S28 := Kd.iso (Kd.pair (Kd.slice 3 (Kd.int .i64)) (Kd.pair (Kd.slice 87 k87) (Kd.pair (Kd.slice 57 k57) (Kd.pair (Kd.slice 59 k59) (Kd.int .u8))))) (fun x : S28 => (x.f0, x.f1, x.f2, x.f3, x.f4))
theorem k28_open {w : World} {x : S28} {cs : List Value} (h : k28.K w x cs) : ∃ A0 c0 A1 c1 A2 c2 A3 c3, cs = [.slice A0 x.f0.length c0, .slice A1 x.f1.length c1, .slice A2 x.f2.length c2, .slice A3 x.f3.length c3, .int .u8 x.f4] ∧ x.f0.length ≤ c0 ∧ (Kd.int .i64).C w A0 x.f0.length x.f0 ∧ x.f1.length ≤ c1 ∧ k87.C w A1 x.f1.length x.f1 ∧ x.f2.length ≤ c2 ∧ k57.C w A2 x.f2.length x.f2 ∧ x.f3.length ≤ c3 ∧ k59.C w A3 x.f3.length x.f3 := by
  obtain ⟨_, _, rfl, ⟨A0, c0, rfl, l0, g0⟩, ⟨_, _, rfl, ⟨A1, c1, rfl, l1, g1⟩, ⟨_, _, rfl, ⟨A2, c2, rfl, l2, g2⟩, ⟨_, _, rfl, ⟨A3, c3, rfl, l3, g3⟩, rfl⟩⟩⟩⟩ := h
  exact ⟨A0, c0, A1, c1, A2, c2, A3, c3, rfl, l0, g0, l1, g1, l2, g2, l3, g3⟩
end Go.Proofs.Ytcnobkcddgcifaa.PT
/- Contracts of the library's generic functions, at this program's types, whatever the elements' kind. (Written by gen.py.) -/
set_option linter.unusedVariables false
set_option linter.unusedSimpArgs false
namespace Go.Proofs.Ytcnobkcddgcifaa.Gen
open Go.RowKit Go.Proofs.YtcnobkcddgcifaaW.PrintWords Go.Proofs.YtcnobkcddgcifaaW.PrintLast Go.Proofs.YtcnobkcddgcifaaW.PrintMore
/-- The place of the first that it holds of, or -1. -/
def idxOf {α : Type} (l : List α) (p : α → Bool) : Int := if l.any p = true then (l.findIdx p : Int) else -1
theorem idxOf_at {α : Type} {l : List α} {p : α → Bool} {j : Nat} (hj : j < l.length) (h : ∀ i (hi : i < j), p (l[i]'(by omega)) = false) (hp : p l[j] = true) : idxOf l p = j := by
  have : l.any p = true := List.any_eq_true.2 ⟨l[j], List.getElem_mem hj, hp⟩
  unfold idxOf
  rw [if_pos this]
  congr 1
  exact (List.findIdx_eq hj).2 ⟨hp, h⟩
theorem idxOf_none {α : Type} {l : List α} {p : α → Bool} (h : ∀ i (hi : i < l.length), p l[i] = false) : idxOf l p = -1 := by
  unfold idxOf
  rw [if_neg]
  intro ha
  obtain ⟨x, hx, hp⟩ := List.any_eq_true.1 ha
  obtain ⟨i, hi, rfl⟩ := List.mem_iff_getElem.1 hx
  rw [h i hi] at hp
  cases hp
theorem idxOf_ge {α : Type} (l : List α) (p : α → Bool) : decide (idxOf l p ≥ 0) = l.any p := by
  unfold idxOf
  cases l.any p <;> simp
theorem idxOf_some {α : Type} {l : List α} {p : α → Bool} (h : l.any p = true) : ∃ j : Nat, j < l.length ∧ idxOf l p = j := by
  refine ⟨l.findIdx p, List.findIdx_lt_length_of_exists (by simpa using h), ?_⟩
  unfold idxOf
  rw [if_pos h]
theorem new_one (w : World) (v : Value) (t : TypeId) : (w.alloc (.cells #[v] t)).cell? ⟨w.heap.size, 0, none⟩ = some v := by
  have hh := heap_alloc_new w (.cells #[v] t)
  unfold World.cell?
  rw [hh]
  rfl
theorem new_lt (w : World) (o : Obj) : w.heap.size < (w.alloc o).heap.size := by
  show w.heap.size < (w.heap.push o).size
  rw [Array.size_push]
  exact Nat.lt_succ_self _
/-- The element of a row, loaded at once. -/
theorem load_mid {α : Type} {d : Kd α} {t : TypeId} {w : World} {A : Option Addr} {n : Nat} {l : List α} {D : TypeDesc} (hu : Try.prog.underlying t = some D) (hd : D.isRow = true) (hi : (Try.prog.info? t).map (·.size) = some d.sz) (h : Kd.C d w A n l) (j : Nat) (hj : j < l.length) :
    ∃ (ad : Addr) (cs : List Value), A = some ad ∧ d.K w l[j] cs ∧ ∀ w' : World, Below w.heap.size w w' → (Instr.loadAt t (.pointer (some (ad.add (j * d.sz))))).run Try.prog w' = .ok (.agg cs.toArray) w' := by
  obtain ⟨h1, _, h3⟩ := h
  obtain ⟨ad, rfl, hc⟩ := h3 (by omega)
  obtain ⟨cs, hl, hK, hcell⟩ := hc j _ (List.getElem?_eq_getElem hj)
  refine ⟨ad, cs, rfl, hK, fun w' hb => ?_⟩
  have hl2 : (loadCells (ad.add (j * d.sz)) cs.length).run Try.prog w' = .ok cs.toArray w' := run_loadCells_list (P := Try.prog) w' _ cs (fun i v hv => by
    have h4 := hcell i v hv
    rw [add_add]
    exact (hb.cell (World.block_lt_of_cell? w _ h4)).trans h4)
  have hagg : (isAgg t).run Try.prog w' = .ok true w' := by
    unfold isAgg
    rw [Sem.run_bind, run_underlying hu w']
    cases D <;> simp_all
  cases hq : Try.prog.info? t with
  | none => simp [hq] at hi
  | some i =>
    have hs : i.size = cs.length := by simp [hq] at hi; omega
    simp [Instr.loadAt, Instr.sureAddr, loadVar, Sem.run_bind, hagg, sizeOf, typeInfo, hq, hs, hl2]
theorem wl_load {P : Program} {ops : Array Oper} {rest : List Oper} {o : Oper} {a : Act} {Q : Exit → Act → World → Prop} {W : World} (t : TypeId) (x : Operand) (ho : o.op = .load t x) (hgd : o.guard = none) (p V : Value) (hx : a.eval x = p) (hld : (Instr.loadAt t p).run P W = .ok V W) (h : wpList P ops Q rest (a.put o.dst V) W) : wpList P ops Q (o :: rest) a W :=
  Kd.event_run hgd (by
    unfold execOp
    rw [ho]
    simp only [hx, Sem.run_bind, hld, Result.andThen_ok]
    rfl) h
/-! ### slices.IndexFunc, slices.ContainsFunc at type 57 -/
set_option maxRecDepth 100000 in
set_option maxHeartbeats 1000000 in
theorem index57 {α : Type} (d : Kd α) (hd : d.sz = 3) (l : List α) (A : Option Addr) (c : Nat) (w : World) (g : FuncId) (caps : Array Value) (p : α → Bool) (hr : d.C w A l.length l) (hc : l.length ≤ c) (he : ∀ args w, (callFunc g args).run Try.prog w = .ok (.enter g args) w)
    (hf : ∀ x ∈ l, ∀ cs w', Below w.heap.size w w' → d.K w' x cs → Calls Try.prog g (#[.agg cs.toArray] ++ caps) w' fun e w2 => e = .returned (.bool (p x)) ∧ Below w'.heap.size w' w2) :
    Calls Try.prog 68 #[.slice A l.length c, .func (.func g) #[] caps] w fun e w' => e = .returned (.int .i64 (idxOf l p)) ∧ Below w.heap.size w w' := by
  have hln : l.length ≤ 9223372036854775807 := hr.2.1
  have HD := Lib.hid hd
  have HR := Lib.hid hr
  have HF := Lib.hid hf
  have HB0 := Lib.hid (Below.refl w.heap.size w)
  clear hr hf hd
  go_enter Try.func68, Try.ntmps68
  go_wp2
  go_loopw [8] (fun i wr => ∃ j : Nat, j ≤ l.length ∧ i = .int .i64 j ∧ Hid (∀ i (hi : i < j) (hl : i < l.length), p l[i] = false) ∧ Hid (Below w.heap.size w wr)) (fun i _ => l.length - (intOf i).toNat)
  case atStart => exact ⟨0, Nat.zero_le _, rfl, Lib.hid (fun i hi => absurd hi (Nat.not_lt_zero _)), HB0⟩
  case round =>
    obtain ⟨j, hj, rfl, HN, HB⟩ := hrel
    by_cases hlt : j < l.length
    · obtain ⟨ad, cs, e1, hK, hld⟩ := load_mid (t := 57) Try.underlying57 rfl (by rw [HD.out]; kernel_rfl) HR.out j hlt
      rw [HD.out] at hld
      replace hld := hld wr HB.out
      have HK := Lib.hid (d.K_below HB.out hK)
      clear hK
      cases e1
      obtain ⟨V, hV⟩ : ∃ V, V = Value.agg cs.toArray := ⟨_, rfl⟩
      rw [← hV] at hld
      replace hV := Lib.hid hV
      go_wp2_with ((with_reducible refine gate_ (.load 57 (.tmp 14)) rfl ?_); refine wl_load 57 (.tmp 14) rfl rfl _ V rfl hld ?_)
      refine (hV.out ▸ HF.out l[j] (List.getElem_mem hlt) cs wr HB.out HK.out).mono ?_
      rintro e w1 ⟨rfl, hb⟩
      replace HB := Lib.hid (below_then HB.out HB.out.size hb)
      clear hb
      cases hp : p l[j] with
      | true =>
        have HI := Lib.hid (idxOf_at hlt (fun i hi => HN.out i hi (by omega)) hp)
        clear hp
        go_wp2
        go_ret
        exact ⟨by rw [HI.out]; rfl, HB.out⟩
      | false =>
        have HN1 : Hid (∀ i (hi : i < j + 1) (hl : i < l.length), p l[i] = false) := Lib.hid (fun i hi hl => by
          rcases Nat.lt_succ_iff_lt_or_eq.1 hi with h | h
          · exact HN.out i h hl
          · subst h; exact hp)
        clear hp
        go_wp2
        go_roundw
        case rel => exact ⟨j + 1, by omega, by go_num, HN1, HB.out⟩
        case measure => simp [intOf]; omega
    · obtain rfl : j = l.length := by omega
      have HI := Lib.hid (idxOf_none (fun i hi => HN.out i hi hi))
      go_wp2
      go_ret
      exact ⟨by rw [HI.out]; rfl, HB.out⟩

/-! ### slices.IndexFunc, slices.ContainsFunc at type 59 -/
set_option maxRecDepth 100000 in
set_option maxHeartbeats 1000000 in
theorem index59 {α : Type} (d : Kd α) (hd : d.sz = 4) (l : List α) (A : Option Addr) (c : Nat) (w : World) (g : FuncId) (caps : Array Value) (p : α → Bool) (hr : d.C w A l.length l) (hc : l.length ≤ c) (he : ∀ args w, (callFunc g args).run Try.prog w = .ok (.enter g args) w)
    (hf : ∀ x ∈ l, ∀ cs w', Below w.heap.size w w' → d.K w' x cs → Calls Try.prog g (#[.agg cs.toArray] ++ caps) w' fun e w2 => e = .returned (.bool (p x)) ∧ Below w'.heap.size w' w2) :
    Calls Try.prog 56 #[.slice A l.length c, .func (.func g) #[] caps] w fun e w' => e = .returned (.int .i64 (idxOf l p)) ∧ Below w.heap.size w w' := by
  have hln : l.length ≤ 9223372036854775807 := hr.2.1
  have HD := Lib.hid hd
  have HR := Lib.hid hr
  have HF := Lib.hid hf
  have HB0 := Lib.hid (Below.refl w.heap.size w)
  clear hr hf hd
  go_enter Try.func56, Try.ntmps56
  go_wp2
  go_loopw [8] (fun i wr => ∃ j : Nat, j ≤ l.length ∧ i = .int .i64 j ∧ Hid (∀ i (hi : i < j) (hl : i < l.length), p l[i] = false) ∧ Hid (Below w.heap.size w wr)) (fun i _ => l.length - (intOf i).toNat)
  case atStart => exact ⟨0, Nat.zero_le _, rfl, Lib.hid (fun i hi => absurd hi (Nat.not_lt_zero _)), HB0⟩
  case round =>
    obtain ⟨j, hj, rfl, HN, HB⟩ := hrel
    by_cases hlt : j < l.length
    · obtain ⟨ad, cs, e1, hK, hld⟩ := load_mid (t := 59) Try.underlying59 rfl (by rw [HD.out]; kernel_rfl) HR.out j hlt
      rw [HD.out] at hld
      replace hld := hld wr HB.out
      have HK := Lib.hid (d.K_below HB.out hK)
      clear hK
      cases e1
      obtain ⟨V, hV⟩ : ∃ V, V = Value.agg cs.toArray := ⟨_, rfl⟩
      rw [← hV] at hld
      replace hV := Lib.hid hV
      go_wp2_with ((with_reducible refine gate_ (.load 59 (.tmp 14)) rfl ?_); refine wl_load 59 (.tmp 14) rfl rfl _ V rfl hld ?_)
      refine (hV.out ▸ HF.out l[j] (List.getElem_mem hlt) cs wr HB.out HK.out).mono ?_
      rintro e w1 ⟨rfl, hb⟩
      replace HB := Lib.hid (below_then HB.out HB.out.size hb)
      clear hb
      cases hp : p l[j] with
      | true =>
        have HI := Lib.hid (idxOf_at hlt (fun i hi => HN.out i hi (by omega)) hp)
        clear hp
        go_wp2
        go_ret
        exact ⟨by rw [HI.out]; rfl, HB.out⟩
      | false =>
        have HN1 : Hid (∀ i (hi : i < j + 1) (hl : i < l.length), p l[i] = false) := Lib.hid (fun i hi hl => by
          rcases Nat.lt_succ_iff_lt_or_eq.1 hi with h | h
          · exact HN.out i h hl
          · subst h; exact hp)
        clear hp
        go_wp2
        go_roundw
        case rel => exact ⟨j + 1, by omega, by go_num, HN1, HB.out⟩
        case measure => simp [intOf]; omega
    · obtain rfl : j = l.length := by omega
      have HI := Lib.hid (idxOf_none (fun i hi => HN.out i hi hi))
      go_wp2
      go_ret
      exact ⟨by rw [HI.out]; rfl, HB.out⟩

end Go.Proofs.Ytcnobkcddgcifaa.Gen
/- tree.Name, tree.Find: closures through the library. (A part of the print PT: printed texts come before it.) -/
set_option linter.unusedVariables false
set_option linter.unusedSimpArgs false
namespace Go.Proofs.Ytcnobkcddgcifaa.PT
open Go.RowKit Go.Proofs.YtcnobkcddgcifaaW.PrintWords Go.Proofs.YtcnobkcddgcifaaW.PrintLast Go.Proofs.YtcnobkcddgcifaaW.PrintMore Go.Proofs.Ytcnobkcddgcifaa.Gen
/-- Does a rune from a place on meet p? -/
def anyRune (p : Nat → Bool) (s : ByteArray) : Nat → Nat → Bool
  | 0, _ => false
  | f + 1, pos => if pos < s.size then (if p (Utf8.decode s pos).1 = true then true else anyRune p s f (pos + (Utf8.decode s pos).2)) else false
theorem anyRune_end (p : Nat → Bool) (s : ByteArray) (f pos : Nat) (h : ¬ pos < s.size) : anyRune p s f pos = false := by cases f <;> simp [anyRune, h]
set_option maxRecDepth 100000 in
set_option maxHeartbeats 1000000 in
theorem sidx_calls (g : Nat) (lb : Array Value) (eg : ∀ args w, (callFunc g args).run Try.prog w = .ok (.enter g args) w) (p : Nat → Bool) (s : ByteArray) (w : World)
    (hp : ∀ (W : World) (x : Nat), x ≤ 1114111 → Below w.heap.size w W → Calls Try.prog g (#[.int .i32 (x : Int)] ++ lb) W fun e w' => e = .returned (.bool (p x)) ∧ Below W.heap.size W w') :
    Calls Try.prog 74 #[.string s, .func (.func g) #[] lb, .bool true] w fun e w' => ∃ i : Int, e = .returned (.int .i64 i) ∧ decide (0 ≤ i) = anyRune p s s.size 0 ∧ Below w.heap.size w w' := by
  have HP := Lib.hid hp
  clear hp
  go_enter Try.func74, Try.ntmps74
  go_wp2
  go_loopg [] s.size (fun gf wx => ∃ pos : Nat, wx.heap[w.heap.size]? = some (.stringIter s pos) ∧ Below w.heap.size w wx ∧ anyRune p s gf pos = anyRune p s s.size 0 ∧ s.size ≤ pos + gf)
  case atStart => exact ⟨0, World.iter_heap w s 0, (Below.refl _ w).alloc (Nat.le_refl _) _, rfl, by omega⟩
  case round =>
    obtain ⟨pos, hit, hbw, hleft, hfu⟩ := hrel
    by_cases hps : pos < s.size
    · obtain ⟨g', rfl⟩ : ∃ g', gk = g' + 1 := ⟨gk - 1, by omega⟩
      have hnx : ∀ ty, (Instr.next (.pointer (some ⟨w.heap.size, 0, none⟩)) true ty).run Try.prog wr = _ := fun ty => Lib.run_next_any_at wr w.heap.size s pos ty hit hps
      have hwd := Lib.width_pos s pos
      obtain ⟨R, hR⟩ : ∃ R, (Utf8.decode s pos).1 = R := ⟨_, rfl⟩
      obtain ⟨K, hK⟩ : ∃ K, (Utf8.decode s pos).2 = K := ⟨_, rfl⟩
      simp only [anyRune, hps, if_true, hR, hK] at hleft
      rw [hR, hK] at hnx
      rw [hK] at hwd
      have hit2 := Lib.iterAt_heap wr w.heap.size s pos (pos + K) hit
      have hbw2 := Lib.below_iterAt hbw (k := w.heap.size) (Nat.le_refl _) s (pos + K)
      obtain ⟨W, hWd⟩ : ∃ W, wr.iterAt w.heap.size s (pos + K) = W := ⟨_, rfl⟩
      rw [hWd] at hnx hit2 hbw2
      have hltW : w.heap.size < W.heap.size := (Array.getElem?_eq_some_iff.1 hit2).1
      have cS : Calls Try.prog g (#[.int .i32 (R : Int)] ++ lb) W _ := HP.out W R (by rw [← hR]; exact Lib.rune_le s pos) hbw2
      cases hsp : p R <;> rw [hsp] at cS <;> simp only [hsp, if_true, Bool.false_eq_true, Bool.true_eq_false, if_false] at hleft <;> replace hleft := Lib.hid hleft <;> clear hsp
      · go_wp2_with (go_at_fn g; refine cS.mono ?_; rintro e W' ⟨rfl, hbc⟩)
        go_roundg g'
        case measure => omega
        case rel => exact ⟨pos + K, (hbc.block _ hltW).trans hit2, (hbw2.trans (hbc.mono hbw2.size)), hleft.out, by omega⟩
      · go_wp2_with (go_at_fn g; refine cS.mono ?_; rintro e W' ⟨rfl, hbc⟩)
        go_ret
        exact ⟨_, rfl, by rw [← hleft.out]; simp, (hbw2.trans (hbc.mono hbw2.size))⟩
    · have hnx : ∀ ty, (Instr.next (.pointer (some ⟨w.heap.size, 0, none⟩)) true ty).run Try.prog wr = _ := fun ty => Lib.run_next_end_at wr w.heap.size s pos ty hit hps
      rw [anyRune_end p s gk pos hps] at hleft
      replace hleft := Lib.hid hleft
      go_wp2
      go_ret
      exact ⟨_, rfl, by rw [← hleft.out]; rfl, hbw⟩
theorem scontains_calls (g : Nat) (lb : Array Value) (eg : ∀ args w, (callFunc g args).run Try.prog w = .ok (.enter g args) w) (p : Nat → Bool) (s : ByteArray) (w : World)
    (hp : ∀ (W : World) (x : Nat), x ≤ 1114111 → Below w.heap.size w W → Calls Try.prog g (#[.int .i32 (x : Int)] ++ lb) W fun e w' => e = .returned (.bool (p x)) ∧ Below W.heap.size W w') :
    Calls Try.prog 58 #[.string s, .func (.func g) #[] lb] w fun e w' => e = .returned (.bool (anyRune p s s.size 0)) ∧ Below w.heap.size w w' := by
  have H := Lib.hid (sidx_calls g lb eg p s w hp)
  clear hp eg
  go_enter Try.func58, Try.ntmps58
  go_wp2_with fail
  have H2 : Calls Try.prog 70 #[.string s, .func (.func g) #[] lb] w fun e w' => ∃ i : Int, e = .returned (.int .i64 i) ∧ decide (0 ≤ i) = anyRune p s s.size 0 ∧ Below w.heap.size w w' := by
    go_enter Try.func70, Try.ntmps70
    go_wp2_with fail
    refine H.out.mono ?_
    rintro e w1 ⟨i, rfl, hi, hb⟩
    have HI := Lib.hid hi
    have HB := Lib.hid hb
    clear hi hb
    go_wp2
    go_ret
    exact ⟨_, rfl, HI.out, HB.out⟩
  refine H2.mono ?_
  rintro e w1 ⟨i, rfl, hi, hb⟩
  have HI := Lib.hid hi
  have HB := Lib.hid hb
  clear hi hb H H2
  go_wp2
  go_ret
  exact ⟨by rw [← HI.out]; rfl, HB.out⟩
/-- Not allowed in a name. -/
def badR (x : Nat) : Bool := decide (x ≠ 45 ∧ x ≠ 95 ∧ (x < 48 ∨ 57 < x) ∧ (x < 97 ∨ 122 < x))
set_option maxRecDepth 100000 in
theorem badR_calls (x : Nat) (w : World) : Calls Try.prog 59 #[.int .i32 (x : Int)] w fun e w' => e = .returned (.bool (badR x)) ∧ Below w.heap.size w w' := by
  have hv : Hid (badR x = (!((x : Int) == 45) && !((x : Int) == 95) && (decide ((x : Int) < 48) || decide (57 < (x : Int))) && (decide ((x : Int) < 97) || decide (122 < (x : Int))))) := Lib.hid (by
    unfold badR
    rw [Bool.eq_iff_iff]
    simp
    omega)
  cases h1 : ((x : Int) == 45) <;> cases h2 : ((x : Int) == 95) <;> cases h3 : decide ((x : Int) < 48) <;> cases h4 : decide (57 < (x : Int)) <;> cases h5 : decide ((x : Int) < 97) <;> cases h6 : decide (122 < (x : Int))
  all_goals
    rw [h1, h2, h3, h4, h5, h6] at hv
    first
    | (exfalso; simp at h1 h2 h3 h4 h5 h6; omega)
    | skip
  all_goals
    have n1 : ((x : Int) != 45) = !((x : Int) == 45) := rfl
    have n2 : ((x : Int) != 95) = !((x : Int) == 95) := rfl
    rw [h1] at n1
    rw [h2] at n2
    simp only [Bool.not_true, Bool.not_false] at n1 n2
    go_enter Try.func59, Try.ntmps59
    go_wp2
    go_ret
    exact ⟨by rw [hv.out]; rfl, Below.refl _ _⟩
/-- May it be a name? -/
def nameOK (s : ByteArray) : Bool := decide (1 ≤ s.size ∧ s.size ≤ 16 ∧ 97 ≤ bt s 0 ∧ bt s 0 ≤ 122) && !(anyRune badR s s.size 0)
set_option maxRecDepth 100000 in
theorem name_calls (s : ByteArray) (w : World) : Calls Try.prog 37 #[.string s] w fun e w' => e = .returned (.bool (nameOK s)) ∧ Below w.heap.size w w' := by
  have he : ∀ args w, (callFunc 59 args).run Try.prog w = .ok (.enter 59 args) w := enters_of Try.func59 (by kernel_rfl) rfl
  have H := Lib.hid (scontains_calls 59 #[] he badR s w (fun W x _ _ => badR_calls x W))
  clear he
  have hl : s.toList = s.data.toList := Lib.toList_data s
  have hle : s.toList.length = s.size := by rw [hl, Array.length_toList]; rfl
  by_cases h0 : s.size = 0
  · have hv : Hid (nameOK s = false) := Lib.hid (by unfold nameOK; rw [decide_eq_false (by omega)]; rfl)
    have hs : s.toList = [] := List.eq_nil_of_length_eq_zero (by omega)
    have hs2 : s.toList.isEmpty = true := by rw [hs]; rfl
    clear h0 hl hle
    go_enter Try.func37, Try.ntmps37
    go_wp2
    go_ret
    exact ⟨by rw [hv.out]; rfl, Below.refl _ _⟩
  · have hs2 : s.toList.isEmpty = false := by
      cases h : s.toList with
      | nil => rw [h] at hle; simp at hle; omega
      | cons a l => rfl
    have hs3 : ¬ s.toList = [] := by intro h; rw [h] at hs2; cases hs2
    have hpos : 0 < s.size := by omega
    have hb : ((s[0]'hpos).toNat : Int) = bt s 0 := bt_at s 0 hpos
    have hr := bt_range s 0
    clear hl hle h0
    by_cases h1 : s.size ≤ 16
    · by_cases h2 : 97 ≤ bt s 0
      · by_cases h3 : bt s 0 ≤ 122
        · have hv : Hid (nameOK s = !(anyRune badR s s.size 0)) := Lib.hid (by unfold nameOK; rw [decide_eq_true ⟨by omega, h1, h2, h3⟩]; rfl)
          rw [← hb] at h2 h3
          clear hb hr
          go_enter Try.func37, Try.ntmps37
          go_wp2_with fail
          refine H.out.mono ?_
          rintro e w1 ⟨rfl, hbb⟩
          have HB := Lib.hid hbb
          clear hbb H
          obtain ⟨t, ht⟩ : ∃ t, t = anyRune badR s s.size 0 := ⟨_, rfl⟩
          rw [← ht] at hv ⊢
          clear ht
          go_wp2
          go_ret
          exact ⟨by rw [hv.out]; rfl, HB.out⟩
        · have hv : Hid (nameOK s = false) := Lib.hid (by unfold nameOK; rw [decide_eq_false (by omega)]; rfl)
          rw [← hb] at h2 h3
          clear hb hr
          go_enter Try.func37, Try.ntmps37
          go_wp2
          go_ret
          exact ⟨by rw [hv.out]; rfl, Below.refl _ _⟩
      · have hv : Hid (nameOK s = false) := Lib.hid (by unfold nameOK; rw [decide_eq_false (by omega)]; rfl)
        rw [← hb] at h2
        clear hb hr
        go_enter Try.func37, Try.ntmps37
        go_wp2
        go_ret
        exact ⟨by rw [hv.out]; rfl, Below.refl _ _⟩
    · have hv : Hid (nameOK s = false) := Lib.hid (by unfold nameOK; rw [decide_eq_false (by omega)]; rfl)
      clear hb hr
      go_enter Try.func37, Try.ntmps37
      go_wp2
      go_ret
      exact ⟨by rw [hv.out]; rfl, Below.refl _ _⟩
/-- An account's place, and whether there is one. -/
def isName (name : ByteArray) (x : S57) : Bool := x.f0.toList == name.toList
def findA (l : List S57) (name : ByteArray) : Int × Bool := (max (idxOf l (isName name)) 0, l.any (isName name))
set_option maxRecDepth 100000 in
theorem find1_calls (x : S57) (name : ByteArray) (b : Nat) (w : World) (h : w.cell? ⟨b, 0, none⟩ = some (.string name)) :
    Calls Try.prog 53 #[.agg #[.string x.f0, .string x.f1, .int .i64 x.f2], .pointer (some ⟨b, 0, none⟩)] w fun e w' => e = .returned (.bool (isName name x)) ∧ Below w.heap.size w w' := by
  have ho : ∀ o, (w.alloc o).cell? ⟨b, 0, none⟩ = some (.string name) := fun o => ((below_alloc (Below.refl _ w) o).cell (World.block_lt_of_cell? w _ h)).trans h
  have HB := Lib.hid (below_alloc (Below.refl _ w) (.cells #[.string x.f0, .string x.f1, .int .i64 x.f2] 57))
  clear h
  go_enter Try.func53, Try.ntmps53
  go_wp2
  go_ret
  exact ⟨rfl, HB.out⟩
set_option maxRecDepth 100000 in
theorem find_calls (l : List S57) (A : Option Addr) (c : Nat) (name : ByteArray) (w : World) (hr : Kd.C k57 w A l.length l) (hc : l.length ≤ c) :
    Calls Try.prog 28 #[.slice A l.length c, .string name] w fun e w' => e = .returned (.tuple #[.int .i64 (findA l name).1, .bool (findA l name).2]) ∧ Below w.heap.size w w' := by
  have he : ∀ args w, (callFunc 53 args).run Try.prog w = .ok (.enter 53 args) w := enters_of Try.func53 (by kernel_rfl) rfl
  have hmf : ∀ (fn : Fn) (first cap : Array Value) (w : World), (Instr.makeFunc fn first cap).run Try.prog w = .ok (.func fn first cap) w := fun _ _ _ _ => rfl
  have H := Lib.hid (fun (W : World) (hW : Below w.heap.size w W) (b : Nat) (h1 : W.cell? ⟨b, 0, none⟩ = some (.string name)) =>
    index57 k57 rfl l A c W 53 #[.pointer (some ⟨b, 0, none⟩)] (isName name) (Kd.C_below hr hW) hc he (fun x _ cs w' hb hK => by
      obtain rfl := k57_open hK
      exact find1_calls x name b w' ((hb.cell (World.block_lt_of_cell? W _ h1)).trans h1)))
  clear hr hc he
  have H2 : Hid (∀ (W : World) (hW : Below w.heap.size w W) (b : Nat) (h1 : W.cell? ⟨b, 0, none⟩ = some (.string name)),
      Calls Try.prog 52 #[.slice A l.length c, .func (.func 53) #[] #[.pointer (some ⟨b, 0, none⟩)]] W fun e w' => e = .returned (.tuple #[.int .i64 (findA l name).1, .bool (findA l name).2]) ∧ Below W.heap.size W w') := Lib.hid (by
    intro W hW b h1
    have H1 := Lib.hid (H.out W hW b h1)
    have HG := Lib.hid (idxOf_ge l (isName name))
    have HV : Hid (findA l name = (max (idxOf l (isName name)) 0, l.any (isName name))) := Lib.hid rfl
    clear h1 H hW
    go_enter Try.func52, Try.ntmps52
    go_wp2_with fail
    refine H1.out.mono ?_
    rintro e w1 ⟨rfl, hb⟩
    have HB := Lib.hid hb
    clear hb H1
    obtain ⟨i, hi⟩ : ∃ i, i = idxOf l (isName name) := ⟨_, rfl⟩
    rw [← hi] at HG HV ⊢
    clear hi
    by_cases hneg : i < 0
    · have HM : Hid (max i 0 = 0) := Lib.hid (by omega)
      go_wp2
      go_ret2
      exact ⟨by rw [HV.out, ← HG.out, HM.out]; first | rfl | (rw [decide_eq_false (by omega : ¬ i ≥ 0)]; rfl), HB.out⟩
    · have HM : Hid (max i 0 = i) := Lib.hid (by omega)
      go_wp2
      go_ret2
      exact ⟨by rw [HV.out, ← HG.out, HM.out, decide_eq_true (by omega : i ≥ 0)]; rfl, HB.out⟩)
  go_enter Try.func28, Try.ntmps28
  go_wp2_with fail
  have hB := below_alloc (Below.refl _ w) (.cells #[.string name] 9)
  refine (H2.out _ hB w.heap.size (new_one w _ _)).mono ?_
  rintro e w1 ⟨rfl, hb⟩
  have HB := Lib.hid (below_then hB hB.size hb)
  clear hb H H2 hB
  obtain ⟨⟨r1, r2⟩, hr⟩ : ∃ r, r = findA l name := ⟨_, rfl⟩
  rw [← hr]
  have HRr := Lib.hid hr
  clear hr
  go_wp2
  go_ret2
  exact ⟨by rw [← HRr.out]; rfl, HB.out⟩
end Go.Proofs.Ytcnobkcddgcifaa.PT
/- quota.find, quota.limit: closures through the library. (A part of the print PT.) -/
set_option linter.unusedVariables false
set_option linter.unusedSimpArgs false
namespace Go.Proofs.Ytcnobkcddgcifaa.PT
open Go.RowKit Go.Proofs.YtcnobkcddgcifaaW.PrintWords Go.Proofs.YtcnobkcddgcifaaW.PrintLast Go.Proofs.YtcnobkcddgcifaaW.PrintMore Go.Proofs.Ytcnobkcddgcifaa.Gen
/-- Is a quality called so? -/
def isQ (name : ByteArray) (x : S59) : Bool := x.f0.toList == name.toList
set_option maxRecDepth 100000 in
theorem qfind1_calls (x : S59) (name : ByteArray) (b : Nat) (w : World) (h : w.cell? ⟨b, 0, none⟩ = some (.string name)) :
    Calls Try.prog 57 #[.agg #[.string x.f0, .int .i64 x.f1, .int .i64 x.f2, .int .i64 x.f3], .pointer (some ⟨b, 0, none⟩)] w fun e w' => e = .returned (.bool (isQ name x)) ∧ Below w.heap.size w w' := by
  have ho : ∀ o, (w.alloc o).cell? ⟨b, 0, none⟩ = some (.string name) := fun o => ((below_alloc (Below.refl _ w) o).cell (World.block_lt_of_cell? w _ h)).trans h
  have HB := Lib.hid (below_alloc (Below.refl _ w) (.cells #[.string x.f0, .int .i64 x.f1, .int .i64 x.f2, .int .i64 x.f3] 59))
  clear h
  go_enter Try.func57, Try.ntmps57
  go_wp2
  go_ret
  exact ⟨rfl, HB.out⟩
set_option maxRecDepth 100000 in
theorem qfind_calls (l : List S59) (A : Option Addr) (c : Nat) (name : ByteArray) (w : World) (hr : Kd.C k59 w A l.length l) (hc : l.length ≤ c) :
    Calls Try.prog 33 #[.slice A l.length c, .string name] w fun e w' => e = .returned (.int .i64 (idxOf l (isQ name))) ∧ Below w.heap.size w w' := by
  have he : ∀ args w, (callFunc 57 args).run Try.prog w = .ok (.enter 57 args) w := enters_of Try.func57 (by kernel_rfl) rfl
  have hmf : ∀ (fn : Fn) (first cap : Array Value) (w : World), (Instr.makeFunc fn first cap).run Try.prog w = .ok (.func fn first cap) w := fun _ _ _ _ => rfl
  have H := Lib.hid (fun (W : World) (hW : Below w.heap.size w W) (b : Nat) (h1 : W.cell? ⟨b, 0, none⟩ = some (.string name)) =>
    index59 k59 rfl l A c W 57 #[.pointer (some ⟨b, 0, none⟩)] (isQ name) (Kd.C_below hr hW) hc he (fun x _ cs w' hb hK => by
      obtain rfl := k59_open hK
      exact qfind1_calls x name b w' ((hb.cell (World.block_lt_of_cell? W _ h1)).trans h1)))
  clear hr hc he
  go_enter Try.func33, Try.ntmps33
  go_wp2_with fail
  have hB := below_alloc (Below.refl _ w) (.cells #[.string name] 9)
  refine (H.out _ hB w.heap.size (new_one w _ _)).mono ?_
  rintro e w1 ⟨rfl, hb⟩
  have HB := Lib.hid (below_then hB hB.size hb)
  clear hb H hB
  go_wp2
  go_ret
  exact ⟨rfl, HB.out⟩
/-! ### limits -/
def overQ (n : Int) : Bool := decide (n < -1 ∨ 1073741824 < n)
def limQ (l : List Int) : Bool := !(l.any overQ)
set_option maxRecDepth 100000 in
theorem over_calls (n : Int) (w : World) : Calls Try.prog 61 #[.int .i64 n] w fun e w' => e = .returned (.bool (overQ n)) ∧ Below w.heap.size w w' := by
  by_cases h1 : n < -1
  · have hv : Hid (overQ n = true) := Lib.hid (decide_eq_true (.inl h1))
    go_enter Try.func61, Try.ntmps61
    go_wp2
    go_ret
    exact ⟨by rw [hv.out]; rfl, Below.refl _ _⟩
  · by_cases h2 : 1073741824 < n
    · have hv : Hid (overQ n = true) := Lib.hid (decide_eq_true (.inr h2))
      go_enter Try.func61, Try.ntmps61
      go_wp2
      go_ret
      exact ⟨by rw [hv.out]; rfl, Below.refl _ _⟩
    · have hv : Hid (overQ n = false) := Lib.hid (decide_eq_false (by omega))
      go_enter Try.func61, Try.ntmps61
      go_wp2
      go_ret
      exact ⟨by rw [hv.out]; rfl, Below.refl _ _⟩
set_option maxRecDepth 100000 in
set_option maxHeartbeats 1000000 in
theorem iindex_calls (l : List Int) (A : Option Addr) (c : Nat) (w : World) (hr : Kd.C (Kd.int .i64) w A l.length l) :
    Calls Try.prog 71 #[.slice A l.length c, .func (.func 61) #[] #[]] w fun e w' => e = .returned (.int .i64 (idxOf l overQ)) ∧ Below w.heap.size w w' := by
  have hln : l.length ≤ 9223372036854775807 := hr.2.1
  have HR := Lib.hid hr
  have he : ∀ args w, (callFunc 61 args).run Try.prog w = .ok (.enter 61 args) w := enters_of Try.func61 (by kernel_rfl) rfl
  have HB0 := Lib.hid (Below.refl w.heap.size w)
  clear hr
  go_enter Try.func71, Try.ntmps71
  go_wp2
  go_loopw [8] (fun i wr => ∃ j : Nat, j ≤ l.length ∧ i = .int .i64 j ∧ Hid (∀ i (hi : i < j) (hl : i < l.length), overQ l[i] = false) ∧ Hid (Below w.heap.size w wr)) (fun i _ => l.length - (intOf i).toNat)
  case atStart => exact ⟨0, Nat.zero_le _, rfl, Lib.hid (fun i hi => absurd hi (Nat.not_lt_zero _)), HB0⟩
  case round =>
    obtain ⟨j, hj, rfl, HN, HB⟩ := hrel
    by_cases hlt : j < l.length
    · obtain ⟨ad, e1, hx⟩ := Kd.at_int (Kd.C_below HR.out HB.out) (j : Int) (by omega) (by omega)
      have hrd : rd l (j : Int) = l[j] := by unfold rd; simp [List.getD, hlt]
      rw [hrd, Int.toNat_natCast] at hx
      clear hrd
      cases e1
      obtain ⟨x, hxv⟩ : ∃ x, x = l[j] := ⟨_, rfl⟩
      rw [← hxv] at hx
      have HX := Lib.hid hxv
      clear hxv
      go_wp2_with fail
      refine (over_calls x wr).mono ?_
      rintro e w1 ⟨rfl, hb⟩
      replace HB := Lib.hid (below_then HB.out HB.out.size hb)
      clear hb
      cases hp : overQ x with
      | true =>
        have HI := Lib.hid (idxOf_at hlt (fun i hi => HN.out i hi (by omega)) (by rw [← HX.out]; exact hp))
        clear hp
        go_wp2
        go_ret
        exact ⟨by rw [HI.out]; rfl, HB.out⟩
      | false =>
        have HN1 : Hid (∀ i (hi : i < j + 1) (hl : i < l.length), overQ l[i] = false) := Lib.hid (fun i hi hl => by
          rcases Nat.lt_succ_iff_lt_or_eq.1 hi with h | h
          · exact HN.out i h hl
          · subst h; rw [← HX.out]; exact hp)
        clear hp
        go_wp2
        go_roundw
        case rel => exact ⟨j + 1, by omega, by go_num, HN1, HB.out⟩
        case measure => simp [intOf]; omega
    · obtain rfl : j = l.length := by omega
      have HI := Lib.hid (idxOf_none (fun i hi => HN.out i hi hi))
      go_wp2
      go_ret
      exact ⟨by rw [HI.out]; rfl, HB.out⟩
set_option maxRecDepth 100000 in
theorem limit_calls (l : List Int) (A : Option Addr) (c : Nat) (w : World) (hr : Kd.C (Kd.int .i64) w A l.length l) (hc : l.length ≤ c) :
    Calls Try.prog 38 #[.slice A l.length c] w fun e w' => e = .returned (.bool (limQ l)) ∧ Below w.heap.size w w' := by
  have H1 := Lib.hid (iindex_calls l A c w hr)
  clear hr hc
  go_enter Try.func38, Try.ntmps38
  go_wp2_with fail
  have H2 : Calls Try.prog 60 #[.slice A l.length c, .func (.func 61) #[] #[]] w fun e w' => e = .returned (.bool (l.any overQ)) ∧ Below w.heap.size w w' := by
    go_enter Try.func60, Try.ntmps60
    go_wp2_with fail
    refine H1.out.mono ?_
    rintro e w1 ⟨rfl, hb⟩
    have HB := Lib.hid hb
    have HG := Lib.hid (idxOf_ge l overQ)
    clear hb
    obtain ⟨i, hi⟩ : ∃ i, i = idxOf l overQ := ⟨_, rfl⟩
    rw [← hi] at HG ⊢
    clear hi
    go_wp2
    go_ret
    exact ⟨by rw [← HG.out]; rfl, HB.out⟩
  refine H2.mono ?_
  rintro e w1 ⟨rfl, hb⟩
  have HB := Lib.hid hb
  have HV : Hid (limQ l = !(l.any overQ)) := Lib.hid rfl
  clear hb H1
  obtain ⟨t, ht⟩ : ∃ t, t = l.any overQ := ⟨_, rfl⟩
  rw [← ht] at HV ⊢
  clear ht
  go_wp2
  go_ret
  exact ⟨by rw [HV.out]; rfl, HB.out⟩
end Go.Proofs.Ytcnobkcddgcifaa.PT
/- What runs, in plain Lean. (A part of the print PT.) -/
set_option linter.unusedVariables false
set_option linter.unusedSimpArgs false
namespace Go.Proofs.Ytcnobkcddgcifaa.PT
open Go.RowKit Go.Proofs.YtcnobkcddgcifaaW.PrintWords
/-- Nodes and cores of which something is promised. -/
def tameS (s : S32) : Bool := decide (1 ≤ s.f4 ∧ s.f4 ≤ 64 ∧ 1 ≤ s.f5 ∧ s.f5 ≤ 64)
def Tame (l : List S53) : Prop := (∀ x ∈ l, tameS x.f3 = true) ∧ l.length ≤ 1000000
/-- Does a job run, and is it so? -/
def hit (p : S32 → Bool) (x : S53) : Bool := x.f4 == 2 && p x.f3
def oneQ (p : S32 → Bool) (x : S53) : Int := if hit p x = true then x.f3.f4 * x.f3.f5 else 0
def sumQ (p : S32 → Bool) (l : List S53) : Int := (l.map (oneQ p)).sum
def numQ (p : S32 → Bool) (l : List S53) : Nat := l.countP (hit p)
theorem tame_iff (s : S32) : tameS s = true ↔ 1 ≤ s.f4 ∧ s.f4 ≤ 64 ∧ 1 ≤ s.f5 ∧ s.f5 ≤ 64 := by unfold tameS; exact decide_eq_true_iff
theorem mul_range {a b : Int} (h1 : 1 ≤ a) (h2 : a ≤ 64) (h3 : 1 ≤ b) (h4 : b ≤ 64) : 0 ≤ a * b ∧ a * b ≤ 4096 :=
  ⟨Int.mul_nonneg (by omega) (by omega), Int.le_trans (Int.mul_le_mul h2 h4 (by omega) (by omega)) (by decide)⟩
theorem one_range (p : S32 → Bool) {x : S53} (h : tameS x.f3 = true) : 0 ≤ oneQ p x ∧ oneQ p x ≤ 4096 := by
  obtain ⟨h1, h2, h3, h4⟩ := (tame_iff _).1 h
  unfold oneQ
  split
  · exact mul_range h1 h2 h3 h4
  · exact ⟨Int.le_refl _, by decide⟩
theorem sum_app (p : S32 → Bool) (a b : List S53) : sumQ p (a ++ b) = sumQ p a + sumQ p b := by unfold sumQ; rw [List.map_append, List.sum_append]
theorem num_app (p : S32 → Bool) (a b : List S53) : numQ p (a ++ b) = numQ p a + numQ p b := by unfold numQ; rw [List.countP_append]
theorem sum_range (p : S32 → Bool) : ∀ l : List S53, (∀ x ∈ l, tameS x.f3 = true) → 0 ≤ sumQ p l ∧ sumQ p l ≤ 4096 * (l.length : Int)
  | [], _ => ⟨Int.le_refl _, Int.le_refl _⟩
  | x :: l, h => by
    have h1 := one_range p (h x (List.mem_cons_self ..))
    have h2 := sum_range p l (fun y hy => h y (List.mem_cons_of_mem _ hy))
    have e : sumQ p (x :: l) = oneQ p x + sumQ p l := by unfold sumQ; rw [List.map_cons, List.sum_cons]
    rw [e, List.length_cons]
    omega
theorem num_le (p : S32 → Bool) (l : List S53) : numQ p l ≤ l.length := List.countP_le_length
theorem sum_take (p : S32 → Bool) (l : List S53) (j : Nat) (h : j < l.length) : sumQ p (l.take (j + 1)) = sumQ p (l.take j) + oneQ p l[j] := by
  rw [List.take_succ_eq_append_getElem h, sum_app]
  congr 1
  unfold sumQ
  rw [List.map_cons, List.map_nil, List.sum_cons, List.sum_nil]
  omega
theorem num_take (p : S32 → Bool) (l : List S53) (j : Nat) (h : j < l.length) : numQ p (l.take (j + 1)) = numQ p (l.take j) + (if hit p l[j] = true then 1 else 0) := by
  rw [List.take_succ_eq_append_getElem h, num_app]
  congr 1
  unfold numQ
  rw [List.countP_cons, List.countP_nil]
  omega
theorem Tame.take {p : S32 → Bool} {l : List S53} (h : Tame l) (j : Nat) : 0 ≤ sumQ p (l.take j) ∧ sumQ p (l.take j) ≤ 4096 * (l.length : Int) ∧ numQ p (l.take j) ≤ l.length := by
  have h1 := sum_range p (l.take j) (fun x hx => h.1 x (List.mem_of_mem_take hx))
  have h2 := num_le p (l.take j)
  have h3 : (l.take j).length ≤ l.length := by rw [List.length_take]; omega
  omega
end Go.Proofs.Ytcnobkcddgcifaa.PT
-- printed by wprint.py (this session's program over the kit's print.py)
namespace Go.Proofs.Ytcnobkcddgcifaa.PT
open Go.RowKit Go.Proofs.YtcnobkcddgcifaaW.PrintWords Go.Proofs.YtcnobkcddgcifaaW.PrintLast Go.Proofs.YtcnobkcddgcifaaW.PrintMore
attribute [local go_sem] max2_int min2_int max_two min_two max_three min_three max_four min_four   -- for this text's walks alone
set_option linter.unusedVariables false
set_option linter.unusedSimpArgs false

/-! ### musterref14_Find: function 30 -/
def musterref14_Find.l0 : Nat → List (S57) → ByteArray → Int → Option (Int × Bool)
  | 0, _, _, _ => none
  | k + 1, x0, x1, x6 => if x6 < (x0.length : Int) then (if 0 ≤ x6 then (if ((rd_T57 x0 x6).f0).toList = x1.toList then (some (x6, true)) else (musterref14_Find.l0 k x0 x1 (wrap64 (x6 + 1)))) else (none)) else (some (0, false))
def musterref14_Find.f (k : Nat) (l0 : List (S57)) (a1 : ByteArray) : Option (Int × Bool) := musterref14_Find.l0 k l0 a1 0
theorem musterref14_Find.mono_l : ∀ k, (∀ y0 y1 y2, LeO (musterref14_Find.l0 k y0 y1 y2) (musterref14_Find.l0 (k + 1) y0 y1 y2))
  | 0 => fun _ _ _ r h => by simp [musterref14_Find.l0] at h
  | k + 1 => by
    have ih0 := musterref14_Find.mono_l k
    · intro y0 y1 y2
      unfold musterref14_Find.l0
      repeat' first
      | (with_reducible exact ih0 _ _ _)
      | (with_reducible exact LeO.refl _)
      | (with_reducible exact LeO.none _)
      | (with_reducible refine LeO.ite ?_ ?_)
      | (with_reducible refine LeO.bind ?_ (fun _ => ?_))
      | exact ih0 _ _ _
      | exact LeO.none _
      | refine LeO.ite ?_ ?_
      | refine LeO.bind ?_ (fun _ => ?_)
theorem musterref14_Find.mono : ∀ a0 a1 k, LeO (musterref14_Find.f k a0 a1) (musterref14_Find.f (k + 1) a0 a1) := by
  intro a0 a1 k
  have ih0 := musterref14_Find.mono_l k
  unfold musterref14_Find.f
  repeat' first
      | (with_reducible exact ih0 _ _ _)
      | (with_reducible exact LeO.refl _)
      | (with_reducible exact LeO.none _)
      | (with_reducible refine LeO.ite ?_ ?_)
      | (with_reducible refine LeO.bind ?_ (fun _ => ?_))
      | exact ih0 _ _ _
      | exact LeO.none _
      | refine LeO.ite ?_ ?_
      | refine LeO.bind ?_ (fun _ => ?_)
set_option maxHeartbeats 8000000 in
set_option maxRecDepth 100000 in
theorem musterref14_Find.calls (k : Nat) (A0 : Option Addr) (c0 : Nat) (l0 : List (S57)) (a1 : ByteArray) (r1 : Int) (r2 : Bool) (w : World) (hr0 : Kd.C k57 w A0 l0.length l0) (hc0 : l0.length ≤ c0) (h : musterref14_Find.f k l0 a1 = some (r1, r2)) :
    Calls Try.prog 30 #[.slice A0 l0.length c0, .string a1] w fun e w' => e = .returned (.tuple #[.int .i64 r1, .bool r2]) ∧ Drawn0 w w' := by
  have HR0 := Aside0.mk hr0
  have HC0 := Aside0.mk hc0
  clear hr0 hc0
  have H : (musterref14_Find.l0 k l0 a1 0) = some (r1, r2) := h
  clear h
  have H' := Aside0.mk H
  clear H
  go_enter Try.func30, Try.ntmps30
  go_wp2
  go_loopg [6] k (fun kq v6 w' => ∃ (x6_1 : Int), v6 = .int .i64 x6_1 ∧ Aside0 (musterref14_Find.l0 kq l0 a1 x6_1 = some (r1, r2)) ∧ Aside0 (kq ≤ k) ∧ Drawn0 w w')
  case atStart => exact ⟨(0), (by first | rfl | (simp; done) | (simp [*]; done)), H', ⟨Nat.le_refl _⟩, by repeat (first | exact Drawn0.refl _ | apply Drawn0.step)⟩
  case round =>
    clear H'
    try clear p2
    obtain ⟨x6_1, rfl, HA, HK1, ⟨m1, rfl⟩⟩ := hrel
    cases gk with
    | zero => exact absurd HA.out (by simp [musterref14_Find.l0])
    | succ k1 =>
      have H := HA.out
      clear HA
      simp only [musterref14_Find.l0] at H
      by_cases c3 : x6_1 < (l0.length : Int)
      · rw [if_pos c3] at H
        have c3b0 : decide (x6_1 < (l0.length : Int)) = true := decide_eq_true c3
        clear c3
        by_cases c4 : 0 ≤ x6_1
        · rw [if_pos c4] at H
          have c4b0 : decide (0 ≤ x6_1) = true := decide_eq_true c4
          clear c4
          by_cases c5 : ((rd_T57 l0 x6_1).f0).toList = a1.toList
          · rw [if_pos c5] at H
            have c5b0 : (((rd_T57 l0 x6_1).f0).toList == a1.toList) = true := beq_iff_eq.mpr c5
            have c5b1 : (((rd_T57 l0 x6_1).f0).toList != a1.toList) = false := bne_eq_false_iff_eq.mpr c5
            clear c5
            simp only [Option.some.injEq, Prod.mk.injEq] at H
            obtain ⟨rfl, rfl⟩ := H
            have p181 : 0 ≤ (x6_1 : Int) := of_decide_eq_true (by first | (with_reducible assumption) | assumption)
            have q181 : x6_1 < (l0.length : Int) := of_decide_eq_true (by first | (with_reducible assumption) | assumption)
            obtain ⟨ad181, e181, hx181_0, hx181_1, hx181_2⟩ := at_T57 HR0.out x6_1 p181 q181
            cases e181
            replace p181 := eq_true p181
            replace q181 := eq_true q181
            go_wp2
            go_ret2
            exact ⟨by first | rfl | (simp; done) | (simp [*]; done), by repeat (first | exact Drawn0.refl _ | apply Drawn0.step)⟩
          · rw [if_neg c5] at H
            have c5b0 : (((rd_T57 l0 x6_1).f0).toList == a1.toList) = false := beq_eq_false_iff_ne.mpr c5
            have c5b1 : (((rd_T57 l0 x6_1).f0).toList != a1.toList) = true := bne_iff_ne.mpr c5
            have H' := Aside0.mk H
            clear H
            have p181 : 0 ≤ (x6_1 : Int) := of_decide_eq_true (by first | (with_reducible assumption) | assumption)
            have q181 : x6_1 < (l0.length : Int) := of_decide_eq_true (by first | (with_reducible assumption) | assumption)
            obtain ⟨ad181, e181, hx181_0, hx181_1, hx181_2⟩ := at_T57 HR0.out x6_1 p181 q181
            cases e181
            replace p181 := eq_true p181
            replace q181 := eq_true q181
            go_wp2
            go_roundg k1
            case measure => have := HK1.out; omega
            case rel => exact ⟨(wrap64 (x6_1 + 1)), (by first | rfl | (simp; done) | (simp [*]; done)), H', ⟨by have := HK1.out; omega⟩, by repeat (first | exact Drawn0.refl _ | apply Drawn0.step)⟩
        · rw [if_neg c4] at H
          exact absurd H (by simp)
      · rw [if_neg c3] at H
        have c3b0 : decide (x6_1 < (l0.length : Int)) = false := decide_eq_false c3
        clear c3
        simp only [Option.some.injEq, Prod.mk.injEq] at H
        obtain ⟨rfl, rfl⟩ := H
        go_wp2
        go_ret2
        exact ⟨by first | rfl | (simp; done) | (simp [*]; done), by repeat (first | exact Drawn0.refl _ | apply Drawn0.step)⟩

end Go.Proofs.Ytcnobkcddgcifaa.PT
-- printed by wprint.py (this session's program over the kit's print.py)
namespace Go.Proofs.Ytcnobkcddgcifaa.PT
open Go.RowKit Go.Proofs.YtcnobkcddgcifaaW.PrintWords Go.Proofs.YtcnobkcddgcifaaW.PrintLast Go.Proofs.YtcnobkcddgcifaaW.PrintMore
attribute [local go_sem] max2_int min2_int max_two min_two max_three min_three max_four min_four   -- for this text's walks alone
set_option linter.unusedVariables false
set_option linter.unusedSimpArgs false

/-! ### musterref14_Name: function 40 -/
def musterref14_Name.l0 : Nat → ByteArray → Int → Option (Bool)
  | 0, _, _ => none
  | k + 1, x0, x3 => if x3 < (x0.size : Int) then (if 0 ≤ x3 then (if (bt x0 x3) ≥ 97 then (if ((bt x0 x3) ≤ 122) then (musterref14_Name.l0 k x0 (wrap64 (x3 + 1))) else (if x3 = 0 then (some false) else (if (bt x0 x3) ≥ 48 then (if (bt x0 x3) ≤ 57 then (musterref14_Name.l0 k x0 (wrap64 (x3 + 1))) else (if (bt x0 x3) = 45 then (musterref14_Name.l0 k x0 (wrap64 (x3 + 1))) else (if ((bt x0 x3) = 95) then (musterref14_Name.l0 k x0 (wrap64 (x3 + 1))) else (some false)))) else (if (bt x0 x3) = 45 then (musterref14_Name.l0 k x0 (wrap64 (x3 + 1))) else (if ((bt x0 x3) = 95) then (musterref14_Name.l0 k x0 (wrap64 (x3 + 1))) else (some false)))))) else (if x3 = 0 then (some false) else (if (bt x0 x3) ≥ 48 then (if (bt x0 x3) ≤ 57 then (musterref14_Name.l0 k x0 (wrap64 (x3 + 1))) else (if (bt x0 x3) = 45 then (musterref14_Name.l0 k x0 (wrap64 (x3 + 1))) else (if ((bt x0 x3) = 95) then (musterref14_Name.l0 k x0 (wrap64 (x3 + 1))) else (some false)))) else (if (bt x0 x3) = 45 then (musterref14_Name.l0 k x0 (wrap64 (x3 + 1))) else (if ((bt x0 x3) = 95) then (musterref14_Name.l0 k x0 (wrap64 (x3 + 1))) else (some false)))))) else (none)) else (if (x0.size : Int) ≥ 1 then (some (decide ((x0.size : Int) ≤ 16))) else (some false))
def musterref14_Name.f (k : Nat) (a0 : ByteArray) : Option (Bool) := musterref14_Name.l0 k a0 0
theorem musterref14_Name.mono_l : ∀ k, (∀ y0 y1, LeO (musterref14_Name.l0 k y0 y1) (musterref14_Name.l0 (k + 1) y0 y1))
  | 0 => fun _ _ r h => by simp [musterref14_Name.l0] at h
  | k + 1 => by
    have ih0 := musterref14_Name.mono_l k
    · intro y0 y1
      unfold musterref14_Name.l0
      repeat' first
      | (with_reducible exact ih0 _ _)
      | (with_reducible exact LeO.refl _)
      | (with_reducible exact LeO.none _)
      | (with_reducible refine LeO.ite ?_ ?_)
      | (with_reducible refine LeO.bind ?_ (fun _ => ?_))
      | exact ih0 _ _
      | exact LeO.none _
      | refine LeO.ite ?_ ?_
      | refine LeO.bind ?_ (fun _ => ?_)
theorem musterref14_Name.mono : ∀ a0 k, LeO (musterref14_Name.f k a0) (musterref14_Name.f (k + 1) a0) := by
  intro a0 k
  have ih0 := musterref14_Name.mono_l k
  unfold musterref14_Name.f
  repeat' first
      | (with_reducible exact ih0 _ _)
      | (with_reducible exact LeO.refl _)
      | (with_reducible exact LeO.none _)
      | (with_reducible refine LeO.ite ?_ ?_)
      | (with_reducible refine LeO.bind ?_ (fun _ => ?_))
      | exact ih0 _ _
      | exact LeO.none _
      | refine LeO.ite ?_ ?_
      | refine LeO.bind ?_ (fun _ => ?_)
set_option maxHeartbeats 8000000 in
set_option maxRecDepth 100000 in
theorem musterref14_Name.calls (k : Nat) (a0 : ByteArray) (r : Bool) (w : World) (h : musterref14_Name.f k a0 = some r) :
    Calls Try.prog 40 #[.string a0] w fun e w' => e = .returned (.bool r) ∧ Drawn0 w w' := by
  have H : (musterref14_Name.l0 k a0 0) = some r := h
  clear h
  have H' := Aside0.mk H
  clear H
  go_enter Try.func40, Try.ntmps40
  go_wp2
  go_loopg [3] k (fun kq v3 w' => ∃ (x3_1 : Int), v3 = .int .i64 x3_1 ∧ Aside0 (musterref14_Name.l0 kq a0 x3_1 = some r) ∧ Aside0 (kq ≤ k) ∧ Drawn0 w w')
  case atStart => exact ⟨(0), (by first | rfl | (simp; done) | (simp [*]; done)), H', ⟨Nat.le_refl _⟩, by repeat (first | exact Drawn0.refl _ | apply Drawn0.step)⟩
  case round =>
    clear H'
    obtain ⟨x3_1, rfl, HA, HK1, ⟨m1, rfl⟩⟩ := hrel
    cases gk with
    | zero => exact absurd HA.out (by simp [musterref14_Name.l0])
    | succ k1 =>
      have H := HA.out
      clear HA
      simp only [musterref14_Name.l0] at H
      by_cases c2 : x3_1 < (a0.size : Int)
      · rw [if_pos c2] at H
        have c2b0 : decide (x3_1 < (a0.size : Int)) = true := decide_eq_true c2
        clear c2
        by_cases c3 : 0 ≤ x3_1
        · rw [if_pos c3] at H
          have c3b0 : decide (0 ≤ x3_1) = true := decide_eq_true c3
          clear c3
          by_cases c5 : (bt a0 x3_1) ≥ 97
          · rw [if_pos c5] at H
            have c5b0 : decide (97 ≤ (bt a0 x3_1)) = true := decide_eq_true c5
            clear c5
            by_cases c6 : ((bt a0 x3_1) ≤ 122)
            · rw [if_pos c6] at H
              have c6b0 : decide ((bt a0 x3_1) ≤ 122) = true := decide_eq_true c6
              clear c6
              have H' := Aside0.mk H
              clear H
              have p4 : 0 ≤ (x3_1 : Int) := of_decide_eq_true (by first | (with_reducible assumption) | assumption)
              have q4 : x3_1 < (a0.size : Int) := of_decide_eq_true (by first | (with_reducible assumption) | assumption)
              have hx4 := bt_at a0 x3_1
              replace p4 := eq_true p4
              replace q4 := eq_true q4
              go_wp2
              go_roundg k1
              case measure => have := HK1.out; omega
              case rel => exact ⟨(wrap64 (x3_1 + 1)), (by first | rfl | (simp; done) | (simp [*]; done)), H', ⟨by have := HK1.out; omega⟩, by repeat (first | exact Drawn0.refl _ | apply Drawn0.step)⟩
            · rw [if_neg c6] at H
              have c6b0 : decide ((bt a0 x3_1) ≤ 122) = false := decide_eq_false c6
              clear c6
              by_cases c7 : x3_1 = 0
              · rw [if_pos c7] at H
                have c7b0 : (x3_1 == 0) = true := beq_iff_eq.mpr c7
                have c7b1 : (x3_1 != 0) = false := bne_eq_false_iff_eq.mpr c7
                clear c7
                obtain rfl := Option.some.inj H
                have p4 : 0 ≤ (x3_1 : Int) := of_decide_eq_true (by first | (with_reducible assumption) | assumption)
                have q4 : x3_1 < (a0.size : Int) := of_decide_eq_true (by first | (with_reducible assumption) | assumption)
                have hx4 := bt_at a0 x3_1
                replace p4 := eq_true p4
                replace q4 := eq_true q4
                go_wp2
                go_ret
                exact ⟨by first | rfl | (simp; done) | (simp [*]; done), by repeat (first | exact Drawn0.refl _ | apply Drawn0.step)⟩
              · rw [if_neg c7] at H
                have c7b0 : (x3_1 == 0) = false := beq_eq_false_iff_ne.mpr c7
                have c7b1 : (x3_1 != 0) = true := bne_iff_ne.mpr c7
                by_cases c8 : (bt a0 x3_1) ≥ 48
                · rw [if_pos c8] at H
                  have c8b0 : decide (48 ≤ (bt a0 x3_1)) = true := decide_eq_true c8
                  clear c8
                  by_cases c9 : (bt a0 x3_1) ≤ 57
                  · rw [if_pos c9] at H
                    have c9b0 : decide ((bt a0 x3_1) ≤ 57) = true := decide_eq_true c9
                    clear c9
                    have H' := Aside0.mk H
                    clear H
                    have p4 : 0 ≤ (x3_1 : Int) := of_decide_eq_true (by first | (with_reducible assumption) | assumption)
                    have q4 : x3_1 < (a0.size : Int) := of_decide_eq_true (by first | (with_reducible assumption) | assumption)
                    have hx4 := bt_at a0 x3_1
                    replace p4 := eq_true p4
                    replace q4 := eq_true q4
                    go_wp2
                    go_roundg k1
                    case measure => have := HK1.out; omega
                    case rel => exact ⟨(wrap64 (x3_1 + 1)), (by first | rfl | (simp; done) | (simp [*]; done)), H', ⟨by have := HK1.out; omega⟩, by repeat (first | exact Drawn0.refl _ | apply Drawn0.step)⟩
                  · rw [if_neg c9] at H
                    have c9b0 : decide ((bt a0 x3_1) ≤ 57) = false := decide_eq_false c9
                    clear c9
                    by_cases c10 : (bt a0 x3_1) = 45
                    · rw [if_pos c10] at H
                      have c10b0 : ((bt a0 x3_1) == 45) = true := beq_iff_eq.mpr c10
                      have c10b1 : ((bt a0 x3_1) != 45) = false := bne_eq_false_iff_eq.mpr c10
                      clear c10
                      have H' := Aside0.mk H
                      clear H
                      have p4 : 0 ≤ (x3_1 : Int) := of_decide_eq_true (by first | (with_reducible assumption) | assumption)
                      have q4 : x3_1 < (a0.size : Int) := of_decide_eq_true (by first | (with_reducible assumption) | assumption)
                      have hx4 := bt_at a0 x3_1
                      replace p4 := eq_true p4
                      replace q4 := eq_true q4
                      go_wp2
                      go_roundg k1
                      case measure => have := HK1.out; omega
                      case rel => exact ⟨(wrap64 (x3_1 + 1)), (by first | rfl | (simp; done) | (simp [*]; done)), H', ⟨by have := HK1.out; omega⟩, by repeat (first | exact Drawn0.refl _ | apply Drawn0.step)⟩
                    · rw [if_neg c10] at H
                      have c10b0 : ((bt a0 x3_1) == 45) = false := beq_eq_false_iff_ne.mpr c10
                      have c10b1 : ((bt a0 x3_1) != 45) = true := bne_iff_ne.mpr c10
                      by_cases c11 : ((bt a0 x3_1) = 95)
                      · rw [if_pos c11] at H
                        have c11b0 : ((bt a0 x3_1) == 95) = true := beq_iff_eq.mpr c11
                        have c11b1 : ((bt a0 x3_1) != 95) = false := bne_eq_false_iff_eq.mpr c11
                        clear c11
                        have H' := Aside0.mk H
                        clear H
                        have p4 : 0 ≤ (x3_1 : Int) := of_decide_eq_true (by first | (with_reducible assumption) | assumption)
                        have q4 : x3_1 < (a0.size : Int) := of_decide_eq_true (by first | (with_reducible assumption) | assumption)
                        have hx4 := bt_at a0 x3_1
                        replace p4 := eq_true p4
                        replace q4 := eq_true q4
                        go_wp2
                        go_roundg k1
                        case measure => have := HK1.out; omega
                        case rel => exact ⟨(wrap64 (x3_1 + 1)), (by first | rfl | (simp; done) | (simp [*]; done)), H', ⟨by have := HK1.out; omega⟩, by repeat (first | exact Drawn0.refl _ | apply Drawn0.step)⟩
                      · rw [if_neg c11] at H
                        have c11b0 : ((bt a0 x3_1) == 95) = false := beq_eq_false_iff_ne.mpr c11
                        have c11b1 : ((bt a0 x3_1) != 95) = true := bne_iff_ne.mpr c11
                        obtain rfl := Option.some.inj H
                        have p4 : 0 ≤ (x3_1 : Int) := of_decide_eq_true (by first | (with_reducible assumption) | assumption)
                        have q4 : x3_1 < (a0.size : Int) := of_decide_eq_true (by first | (with_reducible assumption) | assumption)
                        have hx4 := bt_at a0 x3_1
                        replace p4 := eq_true p4
                        replace q4 := eq_true q4
                        go_wp2
                        go_ret
                        exact ⟨by first | rfl | (simp; done) | (simp [*]; done), by repeat (first | exact Drawn0.refl _ | apply Drawn0.step)⟩
                · rw [if_neg c8] at H
                  have c8b0 : decide (48 ≤ (bt a0 x3_1)) = false := decide_eq_false c8
                  clear c8
                  by_cases c12 : (bt a0 x3_1) = 45
                  · rw [if_pos c12] at H
                    have c12b0 : ((bt a0 x3_1) == 45) = true := beq_iff_eq.mpr c12
                    have c12b1 : ((bt a0 x3_1) != 45) = false := bne_eq_false_iff_eq.mpr c12
                    clear c12
                    have H' := Aside0.mk H
                    clear H
                    have p4 : 0 ≤ (x3_1 : Int) := of_decide_eq_true (by first | (with_reducible assumption) | assumption)
                    have q4 : x3_1 < (a0.size : Int) := of_decide_eq_true (by first | (with_reducible assumption) | assumption)
                    have hx4 := bt_at a0 x3_1
                    replace p4 := eq_true p4
                    replace q4 := eq_true q4
                    go_wp2
                    go_roundg k1
                    case measure => have := HK1.out; omega
                    case rel => exact ⟨(wrap64 (x3_1 + 1)), (by first | rfl | (simp; done) | (simp [*]; done)), H', ⟨by have := HK1.out; omega⟩, by repeat (first | exact Drawn0.refl _ | apply Drawn0.step)⟩
                  · rw [if_neg c12] at H
                    have c12b0 : ((bt a0 x3_1) == 45) = false := beq_eq_false_iff_ne.mpr c12
                    have c12b1 : ((bt a0 x3_1) != 45) = true := bne_iff_ne.mpr c12
                    by_cases c13 : ((bt a0 x3_1) = 95)
                    · rw [if_pos c13] at H
                      have c13b0 : ((bt a0 x3_1) == 95) = true := beq_iff_eq.mpr c13
                      have c13b1 : ((bt a0 x3_1) != 95) = false := bne_eq_false_iff_eq.mpr c13
                      clear c13
                      have H' := Aside0.mk H
                      clear H
                      have p4 : 0 ≤ (x3_1 : Int) := of_decide_eq_true (by first | (with_reducible assumption) | assumption)
                      have q4 : x3_1 < (a0.size : Int) := of_decide_eq_true (by first | (with_reducible assumption) | assumption)
                      have hx4 := bt_at a0 x3_1
                      replace p4 := eq_true p4
                      replace q4 := eq_true q4
                      go_wp2
                      go_roundg k1
                      case measure => have := HK1.out; omega
                      case rel => exact ⟨(wrap64 (x3_1 + 1)), (by first | rfl | (simp; done) | (simp [*]; done)), H', ⟨by have := HK1.out; omega⟩, by repeat (first | exact Drawn0.refl _ | apply Drawn0.step)⟩
                    · rw [if_neg c13] at H
                      have c13b0 : ((bt a0 x3_1) == 95) = false := beq_eq_false_iff_ne.mpr c13
                      have c13b1 : ((bt a0 x3_1) != 95) = true := bne_iff_ne.mpr c13
                      obtain rfl := Option.some.inj H
                      have p4 : 0 ≤ (x3_1 : Int) := of_decide_eq_true (by first | (with_reducible assumption) | assumption)
                      have q4 : x3_1 < (a0.size : Int) := of_decide_eq_true (by first | (with_reducible assumption) | assumption)
                      have hx4 := bt_at a0 x3_1
                      replace p4 := eq_true p4
                      replace q4 := eq_true q4
                      go_wp2
                      go_ret
                      exact ⟨by first | rfl | (simp; done) | (simp [*]; done), by repeat (first | exact Drawn0.refl _ | apply Drawn0.step)⟩
          · rw [if_neg c5] at H
            have c5b0 : decide (97 ≤ (bt a0 x3_1)) = false := decide_eq_false c5
            clear c5
            by_cases c14 : x3_1 = 0
            · rw [if_pos c14] at H
              have c14b0 : (x3_1 == 0) = true := beq_iff_eq.mpr c14
              have c14b1 : (x3_1 != 0) = false := bne_eq_false_iff_eq.mpr c14
              clear c14
              obtain rfl := Option.some.inj H
              have p4 : 0 ≤ (x3_1 : Int) := of_decide_eq_true (by first | (with_reducible assumption) | assumption)
              have q4 : x3_1 < (a0.size : Int) := of_decide_eq_true (by first | (with_reducible assumption) | assumption)
              have hx4 := bt_at a0 x3_1
              replace p4 := eq_true p4
              replace q4 := eq_true q4
              go_wp2
              go_ret
              exact ⟨by first | rfl | (simp; done) | (simp [*]; done), by repeat (first | exact Drawn0.refl _ | apply Drawn0.step)⟩
            · rw [if_neg c14] at H
              have c14b0 : (x3_1 == 0) = false := beq_eq_false_iff_ne.mpr c14
              have c14b1 : (x3_1 != 0) = true := bne_iff_ne.mpr c14
              by_cases c15 : (bt a0 x3_1) ≥ 48
              · rw [if_pos c15] at H
                have c15b0 : decide (48 ≤ (bt a0 x3_1)) = true := decide_eq_true c15
                clear c15
                by_cases c16 : (bt a0 x3_1) ≤ 57
                · rw [if_pos c16] at H
                  have c16b0 : decide ((bt a0 x3_1) ≤ 57) = true := decide_eq_true c16
                  clear c16
                  have H' := Aside0.mk H
                  clear H
                  have p4 : 0 ≤ (x3_1 : Int) := of_decide_eq_true (by first | (with_reducible assumption) | assumption)
                  have q4 : x3_1 < (a0.size : Int) := of_decide_eq_true (by first | (with_reducible assumption) | assumption)
                  have hx4 := bt_at a0 x3_1
                  replace p4 := eq_true p4
                  replace q4 := eq_true q4
                  go_wp2
                  go_roundg k1
                  case measure => have := HK1.out; omega
                  case rel => exact ⟨(wrap64 (x3_1 + 1)), (by first | rfl | (simp; done) | (simp [*]; done)), H', ⟨by have := HK1.out; omega⟩, by repeat (first | exact Drawn0.refl _ | apply Drawn0.step)⟩
                · rw [if_neg c16] at H
                  have c16b0 : decide ((bt a0 x3_1) ≤ 57) = false := decide_eq_false c16
                  clear c16
                  by_cases c17 : (bt a0 x3_1) = 45
                  · rw [if_pos c17] at H
                    have c17b0 : ((bt a0 x3_1) == 45) = true := beq_iff_eq.mpr c17
                    have c17b1 : ((bt a0 x3_1) != 45) = false := bne_eq_false_iff_eq.mpr c17
                    clear c17
                    have H' := Aside0.mk H
                    clear H
                    have p4 : 0 ≤ (x3_1 : Int) := of_decide_eq_true (by first | (with_reducible assumption) | assumption)
                    have q4 : x3_1 < (a0.size : Int) := of_decide_eq_true (by first | (with_reducible assumption) | assumption)
                    have hx4 := bt_at a0 x3_1
                    replace p4 := eq_true p4
                    replace q4 := eq_true q4
                    go_wp2
                    go_roundg k1
                    case measure => have := HK1.out; omega
                    case rel => exact ⟨(wrap64 (x3_1 + 1)), (by first | rfl | (simp; done) | (simp [*]; done)), H', ⟨by have := HK1.out; omega⟩, by repeat (first | exact Drawn0.refl _ | apply Drawn0.step)⟩
                  · rw [if_neg c17] at H
                    have c17b0 : ((bt a0 x3_1) == 45) = false := beq_eq_false_iff_ne.mpr c17
                    have c17b1 : ((bt a0 x3_1) != 45) = true := bne_iff_ne.mpr c17
                    by_cases c18 : ((bt a0 x3_1) = 95)
                    · rw [if_pos c18] at H
                      have c18b0 : ((bt a0 x3_1) == 95) = true := beq_iff_eq.mpr c18
                      have c18b1 : ((bt a0 x3_1) != 95) = false := bne_eq_false_iff_eq.mpr c18
                      clear c18
                      have H' := Aside0.mk H
                      clear H
                      have p4 : 0 ≤ (x3_1 : Int) := of_decide_eq_true (by first | (with_reducible assumption) | assumption)
                      have q4 : x3_1 < (a0.size : Int) := of_decide_eq_true (by first | (with_reducible assumption) | assumption)
                      have hx4 := bt_at a0 x3_1
                      replace p4 := eq_true p4
                      replace q4 := eq_true q4
                      go_wp2
                      go_roundg k1
                      case measure => have := HK1.out; omega
                      case rel => exact ⟨(wrap64 (x3_1 + 1)), (by first | rfl | (simp; done) | (simp [*]; done)), H', ⟨by have := HK1.out; omega⟩, by repeat (first | exact Drawn0.refl _ | apply Drawn0.step)⟩
                    · rw [if_neg c18] at H
                      have c18b0 : ((bt a0 x3_1) == 95) = false := beq_eq_false_iff_ne.mpr c18
                      have c18b1 : ((bt a0 x3_1) != 95) = true := bne_iff_ne.mpr c18
                      obtain rfl := Option.some.inj H
                      have p4 : 0 ≤ (x3_1 : Int) := of_decide_eq_true (by first | (with_reducible assumption) | assumption)
                      have q4 : x3_1 < (a0.size : Int) := of_decide_eq_true (by first | (with_reducible assumption) | assumption)
                      have hx4 := bt_at a0 x3_1
                      replace p4 := eq_true p4
                      replace q4 := eq_true q4
                      go_wp2
                      go_ret
                      exact ⟨by first | rfl | (simp; done) | (simp [*]; done), by repeat (first | exact Drawn0.refl _ | apply Drawn0.step)⟩
              · rw [if_neg c15] at H
                have c15b0 : decide (48 ≤ (bt a0 x3_1)) = false := decide_eq_false c15
                clear c15
                by_cases c19 : (bt a0 x3_1) = 45
                · rw [if_pos c19] at H
                  have c19b0 : ((bt a0 x3_1) == 45) = true := beq_iff_eq.mpr c19
                  have c19b1 : ((bt a0 x3_1) != 45) = false := bne_eq_false_iff_eq.mpr c19
                  clear c19
                  have H' := Aside0.mk H
                  clear H
                  have p4 : 0 ≤ (x3_1 : Int) := of_decide_eq_true (by first | (with_reducible assumption) | assumption)
                  have q4 : x3_1 < (a0.size : Int) := of_decide_eq_true (by first | (with_reducible assumption) | assumption)
                  have hx4 := bt_at a0 x3_1
                  replace p4 := eq_true p4
                  replace q4 := eq_true q4
                  go_wp2
                  go_roundg k1
                  case measure => have := HK1.out; omega
                  case rel => exact ⟨(wrap64 (x3_1 + 1)), (by first | rfl | (simp; done) | (simp [*]; done)), H', ⟨by have := HK1.out; omega⟩, by repeat (first | exact Drawn0.refl _ | apply Drawn0.step)⟩
                · rw [if_neg c19] at H
                  have c19b0 : ((bt a0 x3_1) == 45) = false := beq_eq_false_iff_ne.mpr c19
                  have c19b1 : ((bt a0 x3_1) != 45) = true := bne_iff_ne.mpr c19
                  by_cases c20 : ((bt a0 x3_1) = 95)
                  · rw [if_pos c20] at H
                    have c20b0 : ((bt a0 x3_1) == 95) = true := beq_iff_eq.mpr c20
                    have c20b1 : ((bt a0 x3_1) != 95) = false := bne_eq_false_iff_eq.mpr c20
                    clear c20
                    have H' := Aside0.mk H
                    clear H
                    have p4 : 0 ≤ (x3_1 : Int) := of_decide_eq_true (by first | (with_reducible assumption) | assumption)
                    have q4 : x3_1 < (a0.size : Int) := of_decide_eq_true (by first | (with_reducible assumption) | assumption)
                    have hx4 := bt_at a0 x3_1
                    replace p4 := eq_true p4
                    replace q4 := eq_true q4
                    go_wp2
                    go_roundg k1
                    case measure => have := HK1.out; omega
                    case rel => exact ⟨(wrap64 (x3_1 + 1)), (by first | rfl | (simp; done) | (simp [*]; done)), H', ⟨by have := HK1.out; omega⟩, by repeat (first | exact Drawn0.refl _ | apply Drawn0.step)⟩
                  · rw [if_neg c20] at H
                    have c20b0 : ((bt a0 x3_1) == 95) = false := beq_eq_false_iff_ne.mpr c20
                    have c20b1 : ((bt a0 x3_1) != 95) = true := bne_iff_ne.mpr c20
                    obtain rfl := Option.some.inj H
                    have p4 : 0 ≤ (x3_1 : Int) := of_decide_eq_true (by first | (with_reducible assumption) | assumption)
                    have q4 : x3_1 < (a0.size : Int) := of_decide_eq_true (by first | (with_reducible assumption) | assumption)
                    have hx4 := bt_at a0 x3_1
                    replace p4 := eq_true p4
                    replace q4 := eq_true q4
                    go_wp2
                    go_ret
                    exact ⟨by first | rfl | (simp; done) | (simp [*]; done), by repeat (first | exact Drawn0.refl _ | apply Drawn0.step)⟩
        · rw [if_neg c3] at H
          exact absurd H (by simp)
      · rw [if_neg c2] at H
        have c2b0 : decide (x3_1 < (a0.size : Int)) = false := decide_eq_false c2
        clear c2
        by_cases c21 : (a0.size : Int) ≥ 1
        · rw [if_pos c21] at H
          have c21b0 : decide (1 ≤ (a0.size : Int)) = true := decide_eq_true c21
          have c21b1 : decide (1 ≤ a0.size) = true := decide_eq_true (by omega)
          clear c21
          obtain rfl := Option.some.inj H
          go_wp2
          go_ret
          exact ⟨by first | rfl | (simp; done) | (simp [*]; done), by repeat (first | exact Drawn0.refl _ | apply Drawn0.step)⟩
        · rw [if_neg c21] at H
          have c21b0 : decide (1 ≤ (a0.size : Int)) = false := decide_eq_false c21
          have c21b1 : decide (1 ≤ a0.size) = false := decide_eq_false (by omega)
          clear c21
          obtain rfl := Option.some.inj H
          go_wp2
          go_ret
          exact ⟨by first | rfl | (simp; done) | (simp [*]; done), by repeat (first | exact Drawn0.refl _ | apply Drawn0.step)⟩

end Go.Proofs.Ytcnobkcddgcifaa.PT
/- Functions with rounds: what they tell with enough rounds ('Ev'), step by step. -/
set_option linter.unusedVariables false
namespace Go.Proofs.Ytcnobkcddgcifaa.EvK
open Go.RowKit Go.Proofs.YtcnobkcddgcifaaW.PrintWords
section
variable {α β : Type} {f g : Nat → Option α} {r : α}
theorem Ev.pos {c : Prop} [Decidable c] (hc : c) (h : Ev f r) : Ev (fun k => if c then f k else g k) r := by simp only [if_pos hc]; exact h
theorem Ev.neg {c : Prop} [Decidable c] (hc : ¬ c) (h : Ev g r) : Ev (fun k => if c then f k else g k) r := by simp only [if_neg hc]; exact h
theorem Ev.bnd {a : α} {h : Nat → α → Option β} {s : β} (h1 : Ev f a) (h2 : Ev (fun k => h k a) s) : Ev (fun k => (f k).bind (h k)) s := by
  obtain ⟨K1, h1⟩ := h1
  obtain ⟨K2, h2⟩ := h2
  exact ⟨max K1 K2, fun k hk => by show (f k).bind (h k) = some s; rw [h1 k (by omega), Option.bind_some]; exact h2 k (by omega)⟩
theorem Ev.sbnd {a : α} {h : Nat → α → Option β} {s : β} (h2 : Ev (fun k => h k a) s) : Ev (fun k => (some a).bind (h k)) s := by simpa using h2
theorem Ev.one {s : α} (h : r = s) : Ev (fun _ => some r) s := ⟨0, fun _ _ => by rw [h]⟩
theorem Ev.const {x : Option α} (h : x = some r) : Ev (fun _ => x) r := ⟨0, fun _ _ => h⟩
theorem Ev.stp (h : ∀ k, g (k + 1) = f k) (k : Ev f r) : Ev g r := Ev.step h k
theorem Ev.the (h : Ev f r) : ∃ k, f k = some r := Ev.rounds h
end
theorem wr1 {j : Nat} (h : j < 9000000000000000000) : wrap64 ((j : Int) + 1) = ((j + 1 : Nat) : Int) := by unfold wrap64; omega
theorem rd_nat (l : List Int) (j : Nat) (h : j < l.length) : rd l (j : Int) = l[j] := by unfold rd; simp [List.getD, h]
theorem rdOf_nat {α : Type} (d : α) (l : List α) (j : Nat) (h : j < l.length) : rdOf d l (j : Int) = l[j] := by unfold rdOf; simp [List.getD, h]
theorem take_next {α : Type} (l : List α) (j : Nat) (h : j < l.length) : l.take j ++ [l[j]] = l.take (j + 1) := by
  rw [List.take_succ_eq_append_getElem h]
end Go.Proofs.Ytcnobkcddgcifaa.EvK
/- tree.Right, and the document's Right: which accounts may be. (A part of the print PT.) -/
set_option linter.unusedVariables false
set_option linter.unusedSimpArgs false
namespace Go.Proofs.Ytcnobkcddgcifaa.PT
open Go.RowKit Go.Proofs.YtcnobkcddgcifaaW.PrintWords Go.Proofs.YtcnobkcddgcifaaW.PrintLast Go.Proofs.YtcnobkcddgcifaaW.PrintMore Go.Proofs.Ytcnobkcddgcifaa.Gen Go.Proofs.Ytcnobkcddgcifaa.EvK
theorem rdA (l : List S57) (j : Nat) (h : j < l.length) : rd_T57 l (j : Int) = l[j] := by unfold rd_T57; simp [List.getD, h]
/-- May an account stand behind those ahead of it? -/
def okA (ahead : List S57) (x : S57) : Bool := !(findA ahead x.f0).2 && nameOK x.f0 && ((findA ahead x.f1).2 || x.f1.toList.isEmpty) && decide (-1 ≤ x.f2 ∧ x.f2 ≤ 1073741824)
/-- Is it a tree? -/
def allA (l : List S57) : Nat → Bool
  | 0 => true
  | j + 1 => allA l j && (match l[j]? with | some x => okA (l.take j) x | none => true)
def rightA (l : List S57) : Bool := allA l l.length && decide (1 ≤ l.length ∧ l.length ≤ 16)
theorem allA_step (l : List S57) (j : Nat) (h : j < l.length) : allA l (j + 1) = (allA l j && okA (l.take j) l[j]) := by rw [allA, List.getElem?_eq_getElem h]
theorem allA_bad (l : List S57) (j : Nat) (h : allA l j = false) : ∀ n, j ≤ n → allA l n = false := by
  intro n hn
  induction n with
  | zero => obtain rfl : j = 0 := by omega
            exact h
  | succ n ih =>
    rcases Nat.lt_or_ge n j with h1 | h1
    · obtain rfl : j = n + 1 := by omega
      exact h
    · rw [allA, ih h1, Bool.false_and]
theorem find_at (l : List S57) (A : Option Addr) (c n : Nat) (hn : l.length = n) (name : ByteArray) (w : World) (hr : Kd.C k57 w A n l) (hc : n ≤ c) :
    Calls Try.prog 28 #[.slice A n c, .string name] w fun e w' => e = .returned (.tuple #[.int .i64 (findA l name).1, .bool (findA l name).2]) ∧ Below w.heap.size w w' := by
  subst hn
  exact find_calls l A c name w hr hc
theorem C_takeN {w : World} {A : Option Addr} {l : List S57} (h : Kd.C k57 w A l.length l) (j : Nat) (hj : j ≤ l.length) : Kd.C k57 w A j (l.take j) := by
  have := Kd.C_take h hj
  rwa [List.length_take, Nat.min_eq_left hj] at this
/-- What the round holds of the world: the account's box, the row, what lay stays. -/
def RH (w0 : World) (A : Option Addr) (l : List S57) (b : Nat) (x : S57) (w' : World) : Prop :=
  w'.cell? ⟨b, 0, none⟩ = some (.string x.f0) ∧ w'.cell? ⟨b, 1, none⟩ = some (.string x.f1) ∧ w'.cell? ⟨b, 2, none⟩ = some (.int .i64 x.f2) ∧ Kd.C k57 w' A l.length l ∧ Below w0.heap.size w0 w'
theorem RH.row {w0 w1 : World} {A : Option Addr} {l : List S57} {b : Nat} {x : S57} (h : RH w0 A l b x w1) : Kd.C k57 w1 A l.length l := h.2.2.2.1
theorem RH.below {w0 w1 : World} {A : Option Addr} {l : List S57} {b : Nat} {x : S57} (h : RH w0 A l b x w1) : Below w0.heap.size w0 w1 := h.2.2.2.2
theorem box_cell (w : World) (C : Array Value) (t : TypeId) (i : Nat) (v : Value) (h : C[i]? = some v) : (w.alloc (.cells C t)).cell? ⟨w.heap.size, i, none⟩ = some v := by
  have hh := heap_alloc_new w (.cells C t)
  unfold World.cell?
  rw [hh]
  exact h
theorem RH.keep {w0 w1 w2 : World} {A : Option Addr} {l : List S57} {b : Nat} {x : S57} (h : RH w0 A l b x w1) (hb : Below w1.heap.size w1 w2) : RH w0 A l b x w2 := by
  obtain ⟨h0, h1, h2, h3, h4⟩ := h
  exact ⟨(hb.cell (World.block_lt_of_cell? w1 _ h0)).trans h0, (hb.cell (World.block_lt_of_cell? w1 _ h1)).trans h1, (hb.cell (World.block_lt_of_cell? w1 _ h2)).trans h2, Kd.C_below h3 hb, below_then h4 h4.size hb⟩
set_option maxRecDepth 100000 in
set_option maxHeartbeats 2000000 in
theorem treeRight_calls (l : List S57) (A : Option Addr) (c : Nat) (w : World) (hr : Kd.C k57 w A l.length l) (hc : l.length ≤ c) :
    Calls Try.prog 39 #[.slice A l.length c] w fun e w' => e = .returned (.bool (rightA l)) ∧ Below w.heap.size w w' := by
  have hln : l.length ≤ 9223372036854775807 := hr.2.1
  have HR := Lib.hid hr
  have HC := Lib.hid hc
  have HB0 := Lib.hid (Below.refl w.heap.size w)
  clear hr hc
  go_enter Try.func39, Try.ntmps39
  go_wp2
  go_loopw [11] (fun i wr => ∃ j : Nat, j ≤ l.length ∧ i = .int .i64 j ∧ Hid (allA l j = true) ∧ Hid (Below w.heap.size w wr)) (fun i _ => l.length - (intOf i).toNat)
  case atStart => exact ⟨0, Nat.zero_le _, rfl, Lib.hid rfl, HB0⟩
  case round =>
    obtain ⟨j, hj, rfl, HT, HB⟩ := hrel
    by_cases hlt : j < l.length
    · have p1 : 0 ≤ (j : Int) := by omega
      have q1 : (j : Int) < (l.length : Int) := by omega
      obtain ⟨ad, e1, hx0, hx1, hx2⟩ := at_T57 HR.out (j : Int) p1 q1
      rw [rdA l j hlt] at hx0 hx1 hx2
      cases e1
      replace hx0 := (HB.out.cell (World.block_lt_of_cell? w _ hx0)).trans hx0
      replace hx1 := (HB.out.cell (World.block_lt_of_cell? w _ hx1)).trans hx1
      replace hx2 := (HB.out.cell (World.block_lt_of_cell? w _ hx2)).trans hx2
      rw [Int.toNat_natCast] at hx0 hx1 hx2
      go_upto_region 4 with (fail)
      generalize hWD : wr.alloc (.cells _ 57) = WD
      obtain ⟨b, hbd⟩ : ∃ b, b = wr.heap.size := ⟨_, rfl⟩
      rw [← hbd]
      have hS : RH w (some ad) l b l[j] WD := by
        have hb := below_alloc (Below.refl _ wr) (.cells #[.string l[j].f0, .string l[j].f1, .int .i64 l[j].f2] 57)
        rw [hWD] at hb
        exact ⟨by rw [← hWD, hbd]; exact box_cell _ _ _ _ _ rfl, by rw [← hWD, hbd]; exact box_cell _ _ _ _ _ rfl, by rw [← hWD, hbd]; exact box_cell _ _ _ _ _ rfl, Kd.C_below HR.out (below_then HB.out HB.out.size hb), below_then HB.out HB.out.size hb⟩
      clear hWD hbd hx0 hx1 hx2
      generalize hx : l[j] = x at hS ⊢
      replace hx := Lib.hid hx
      have pj : (j : Int) ≤ (c : Int) := by have := HC.out; omega
      unfold RH at hS
      obtain ⟨⟨i1, t1⟩, hf1⟩ : ∃ r, r = findA (l.take j) x.f0 := ⟨_, rfl⟩
      obtain ⟨⟨i2, t2⟩, hf2⟩ : ∃ r, r = findA (l.take j) x.f1 := ⟨_, rfl⟩
      have HF1 : Hid (∀ W, Kd.C k57 W (some ad) l.length l → Calls Try.prog 28 #[.slice (some ad) j c, .string x.f0] W fun e w' => e = .returned (.tuple #[.int .i64 i1, .bool t1]) ∧ Below W.heap.size W w') := Lib.hid (fun W hW => by
        have h := find_at (l.take j) (some ad) c j (by rw [List.length_take]; omega) x.f0 W (C_takeN hW j hj) (by omega)
        rwa [← hf1] at h)
      have HF2 : Hid (∀ W, Kd.C k57 W (some ad) l.length l → Calls Try.prog 28 #[.slice (some ad) j c, .string x.f1] W fun e w' => e = .returned (.tuple #[.int .i64 i2, .bool t2]) ∧ Below W.heap.size W w') := Lib.hid (fun W hW => by
        have h := find_at (l.take j) (some ad) c j (by rw [List.length_take]; omega) x.f1 W (C_takeN hW j hj) (by omega)
        rwa [← hf2] at h)
      have HN : Hid (∀ W, Calls Try.prog 37 #[.string x.f0] W fun e w' => e = .returned (.bool (nameOK x.f0)) ∧ Below W.heap.size W w') := Lib.hid (fun W => name_calls x.f0 W)
      have HO : Hid (okA (l.take j) x = (!t1 && nameOK x.f0 && (t2 || x.f1.toList.isEmpty) && decide (-1 ≤ x.f2 ∧ x.f2 ≤ 1073741824))) := Lib.hid (by unfold okA; rw [← hf1, ← hf2])
      have HA : Hid (allA l (j + 1) = okA (l.take j) x) := Lib.hid (by rw [allA_step l j hlt, HT.out, Bool.true_and, hx.out])
      clear hf1 hf2 hx
      generalize nameOK x.f0 = nm at HN HO
      go_cut [6] (fun v6 wc => v6 = .bool t1 ∧ (wc.cell? ⟨b, 0, none⟩ = some (.string x.f0) ∧ wc.cell? ⟨b, 1, none⟩ = some (.string x.f1) ∧ wc.cell? ⟨b, 2, none⟩ = some (.int .i64 x.f2) ∧ Kd.C k57 wc (some ad) l.length l ∧ Below w.heap.size w wc))
      case first =>
        go_region_held3 (fun w' => w'.cell? ⟨b, 0, none⟩ = some (.string x.f0) ∧ w'.cell? ⟨b, 1, none⟩ = some (.string x.f1) ∧ w'.cell? ⟨b, 2, none⟩ = some (.int .i64 x.f2) ∧ Kd.C k57 w' (some ad) l.length l ∧ Below w.heap.size w w')
          (first | exact RH.keep (by assumption) (by assumption) | exact RH.keep (by assumption) (below_drew1 (Below.refl _ _)))
          ((go_at_call 28; refine (HF1.out _ (RH.row (by assumption))).mono ?_; rintro e w2 ⟨rfl, hb2⟩))
        all_goals
          go_wp2
          go_meet
          case rel => exact ⟨rfl, by assumption⟩
      case rest =>
        clear hS
        obtain ⟨rfl, hS⟩ := hcut
        go_upto_region 5 with (fail)
        go_cut [8] (fun v8 wc => v8 = .bool t2 ∧ (wc.cell? ⟨b, 0, none⟩ = some (.string x.f0) ∧ wc.cell? ⟨b, 1, none⟩ = some (.string x.f1) ∧ wc.cell? ⟨b, 2, none⟩ = some (.int .i64 x.f2) ∧ Kd.C k57 wc (some ad) l.length l ∧ Below w.heap.size w wc))
        case first =>
          go_region_held3 (fun w' => w'.cell? ⟨b, 0, none⟩ = some (.string x.f0) ∧ w'.cell? ⟨b, 1, none⟩ = some (.string x.f1) ∧ w'.cell? ⟨b, 2, none⟩ = some (.int .i64 x.f2) ∧ Kd.C k57 w' (some ad) l.length l ∧ Below w.heap.size w w')
            (first | exact RH.keep (by assumption) (by assumption) | exact RH.keep (by assumption) (below_drew1 (Below.refl _ _)))
            ((go_at_call 28; refine (HF2.out _ (RH.row (by assumption))).mono ?_; rintro e w2 ⟨rfl, hb2⟩))
          all_goals
            go_wp2
            go_meet
            case rel => exact ⟨rfl, by assumption⟩
        case rest =>
          clear hS
          obtain ⟨rfl, hS⟩ := hcut
          obtain ⟨g0, g1, g2, g3, g4⟩ := hS
          have HB4 := Lib.hid g4
          have G0 := Lib.hid g0
          have G1 := Lib.hid g1
          have G2 := Lib.hid g2
          clear g3 g4 HF1 HF2
          have g0 := G0.out
          have g1 := G1.out
          have g2 := G2.out
          obtain ⟨vb, hvb⟩ : ∃ vb, vb = okA (l.take j) x := ⟨_, rfl⟩
          rw [← hvb] at HO HA
          replace hvb := Lib.hid hvb
          cases t1 with
          | true =>
            have HV : Hid (rightA l = false) := Lib.hid (by
              unfold rightA
              rw [allA_bad l (j + 1) (by rw [HA.out, HO.out]; rfl) l.length (by omega)]
              rfl)
            go_wp2
            go_ret
            exact ⟨by rw [HV.out]; rfl, HB4.out⟩
          | false =>
            go_wp2_with fail
            refine (HN.out _).mono ?_
            rintro e w5 ⟨rfl, hb5⟩
            replace g0 := (hb5.cell (World.block_lt_of_cell? _ _ g0)).trans g0
            replace g1 := (hb5.cell (World.block_lt_of_cell? _ _ g1)).trans g1
            replace g2 := (hb5.cell (World.block_lt_of_cell? _ _ g2)).trans g2
            replace HB4 := Lib.hid (below_then HB4.out HB4.out.size hb5)
            clear hb5 G0 G1 G2
            obtain ⟨em, hem⟩ : ∃ em, em = x.f1.toList.isEmpty := ⟨_, rfl⟩
            rw [← hem] at HO
            have hem2 : x.f1.toList.isEmpty = em := hem.symm
            have hem3 : em = true → x.f1.toList = [] := fun h => by rw [h] at hem2; simpa using hem2
            have hem4 : em = false → ¬ x.f1.toList = [] := fun h h2 => by rw [h, h2] at hem2; cases hem2
            clear hem
            have HE := Lib.hid hem2
            clear hem2
            have bad : Hid (vb = false → rightA l = false) := Lib.hid (fun hv => by
              unfold rightA
              rw [allA_bad l (j + 1) (by rw [HA.out, hv]) l.length (by omega)]
              rfl)
            have good : Hid (vb = true → allA l (j + 1) = true) := Lib.hid (fun hv => by rw [HA.out, hv])
            cases nm <;> cases t2 <;> cases em <;> by_cases hl1 : x.f2 < -1 <;> by_cases hl2 : 1073741824 < x.f2
            all_goals
              first
              | (exfalso; omega)
              | skip
            all_goals
              first
              | (have HV : Hid (vb = false) := Lib.hid (by rw [HO.out]; first | rfl | (rw [decide_eq_false (by omega)]; rfl))
                 have HS : Hid True := Lib.hid trivial
                 first | (have hq := hem3 rfl) | (have hq := hem4 rfl)
                 clear hem3 hem4
                 have hz := HE.out
                 clear HE
                 go_wp2
                 go_ret
                 exact ⟨by rw [bad.out HV.out]; rfl, HB4.out⟩)
              | (have HV : Hid (vb = true) := Lib.hid (by rw [HO.out]; first | rfl | (rw [decide_eq_true (by omega)]; rfl))
                 first | (have hq := hem3 rfl) | (have hq := hem4 rfl)
                 clear hem3 hem4
                 have hz := HE.out
                 clear HE
                 have HG := Lib.hid (good.out HV.out)
                 clear good bad HV
                 go_wp2
                 go_roundw
                 case rel => exact ⟨j + 1, by omega, by go_num, HG, HB4⟩
                 case measure => simp [intOf]; omega)
    · obtain rfl : j = l.length := by omega
      by_cases h1 : 1 ≤ l.length
      · have HV : Hid (rightA l = decide ((l.length : Int) ≤ 16)) := Lib.hid (by unfold rightA; rw [HT.out, Bool.eq_iff_iff]; simp; omega)
        go_wp2
        go_ret
        exact ⟨by rw [HV.out]; rfl, HB.out⟩
      · have HV : Hid (rightA l = false) := Lib.hid (by unfold rightA; rw [HT.out]; simp [h1])
        go_wp2
        go_ret
        exact ⟨by rw [HV.out]; rfl, HB.out⟩
end Go.Proofs.Ytcnobkcddgcifaa.PT
-- printed by wprint.py (this session's program over the kit's print.py)
namespace Go.Proofs.Ytcnobkcddgcifaa.PT
open Go.RowKit Go.Proofs.YtcnobkcddgcifaaW.PrintWords Go.Proofs.YtcnobkcddgcifaaW.PrintLast Go.Proofs.YtcnobkcddgcifaaW.PrintMore
attribute [local go_sem] max2_int min2_int max_two min_two max_three min_three max_four min_four   -- for this text's walks alone
set_option linter.unusedVariables false
set_option linter.unusedSimpArgs false

/-! ### slices_Index_string_string: function 69 -/
def slices_Index_string_string.l0 : Nat → List ByteArray → ByteArray → Int → Int → Option (Int)
  | 0, _, _, _, _ => none
  | k + 1, x0, x1, x7, x8 => if x8 < x7 then (if 0 ≤ x8 then (if x8 < (x0.length : Int) then (if x1.toList = (rdOf ByteArray.empty x0 x8).toList then (some x8) else (slices_Index_string_string.l0 k x0 x1 x7 (wrap64 (x8 + 1)))) else (none)) else (none)) else (some (-1))
def slices_Index_string_string.f (k : Nat) (l0 : List ByteArray) (a1 : ByteArray) : Option (Int) := slices_Index_string_string.l0 k l0 a1 (l0.length : Int) 0
theorem slices_Index_string_string.mono_l : ∀ k, (∀ y0 y1 y2 y3, LeO (slices_Index_string_string.l0 k y0 y1 y2 y3) (slices_Index_string_string.l0 (k + 1) y0 y1 y2 y3))
  | 0 => fun _ _ _ _ r h => by simp [slices_Index_string_string.l0] at h
  | k + 1 => by
    have ih0 := slices_Index_string_string.mono_l k
    · intro y0 y1 y2 y3
      unfold slices_Index_string_string.l0
      repeat' first
      | (with_reducible exact ih0 _ _ _ _)
      | (with_reducible exact LeO.refl _)
      | (with_reducible exact LeO.none _)
      | (with_reducible refine LeO.ite ?_ ?_)
      | (with_reducible refine LeO.bind ?_ (fun _ => ?_))
      | exact ih0 _ _ _ _
      | exact LeO.none _
      | refine LeO.ite ?_ ?_
      | refine LeO.bind ?_ (fun _ => ?_)
theorem slices_Index_string_string.mono : ∀ a0 a1 k, LeO (slices_Index_string_string.f k a0 a1) (slices_Index_string_string.f (k + 1) a0 a1) := by
  intro a0 a1 k
  have ih0 := slices_Index_string_string.mono_l k
  unfold slices_Index_string_string.f
  repeat' first
      | (with_reducible exact ih0 _ _ _ _)
      | (with_reducible exact LeO.refl _)
      | (with_reducible exact LeO.none _)
      | (with_reducible refine LeO.ite ?_ ?_)
      | (with_reducible refine LeO.bind ?_ (fun _ => ?_))
      | exact ih0 _ _ _ _
      | exact LeO.none _
      | refine LeO.ite ?_ ?_
      | refine LeO.bind ?_ (fun _ => ?_)
set_option maxHeartbeats 8000000 in
set_option maxRecDepth 100000 in
theorem slices_Index_string_string.calls (k : Nat) (A0 : Option Addr) (c0 : Nat) (l0 : List ByteArray) (a1 : ByteArray) (r : Int) (w : World) (hr0 : Kd.C Kd.string w A0 l0.length l0) (hc0 : l0.length ≤ c0) (h : slices_Index_string_string.f k l0 a1 = some r) :
    Calls Try.prog 69 #[.slice A0 l0.length c0, .string a1] w fun e w' => e = .returned (.int .i64 r) ∧ Drawn0 w w' := by
  have HR0 := Aside0.mk hr0
  have HC0 := Aside0.mk hc0
  clear hr0 hc0
  have H : (slices_Index_string_string.l0 k l0 a1 (l0.length : Int) 0) = some r := h
  clear h
  have H' := Aside0.mk H
  clear H
  go_enter Try.func69, Try.ntmps69
  go_wp2
  go_loopg [8] k (fun kq v8 w' => ∃ (x8_1 : Int), v8 = .int .i64 x8_1 ∧ Aside0 (slices_Index_string_string.l0 kq l0 a1 (l0.length : Int) x8_1 = some r) ∧ Aside0 (kq ≤ k) ∧ Drawn0 w w')
  case atStart => exact ⟨(0), (by first | rfl | (simp; done) | (simp [*]; done)), H', ⟨Nat.le_refl _⟩, by repeat (first | exact Drawn0.refl _ | apply Drawn0.step)⟩
  case round =>
    clear H'
    try clear p2
    obtain ⟨x8_1, rfl, HA, HK1, ⟨m1, rfl⟩⟩ := hrel
    cases gk with
    | zero => exact absurd HA.out (by simp [slices_Index_string_string.l0])
    | succ k1 =>
      have H := HA.out
      clear HA
      simp only [slices_Index_string_string.l0] at H
      by_cases c3 : x8_1 < (l0.length : Int)
      · rw [if_pos c3] at H
        have c3b0 : decide (x8_1 < (l0.length : Int)) = true := decide_eq_true c3
        clear c3
        by_cases c4 : 0 ≤ x8_1
        · rw [if_pos c4] at H
          have c4b0 : decide (0 ≤ x8_1) = true := decide_eq_true c4
          clear c4
          by_cases c5 : x8_1 < (l0.length : Int)
          · rw [if_pos c5] at H
            have c5b0 : decide (x8_1 < (l0.length : Int)) = true := decide_eq_true c5
            clear c5
            by_cases c6 : a1.toList = (rdOf ByteArray.empty l0 x8_1).toList
            · rw [if_pos c6] at H
              have c6b0 : (a1.toList == (rdOf ByteArray.empty l0 x8_1).toList) = true := beq_iff_eq.mpr c6
              have c6b1 : (a1.toList != (rdOf ByteArray.empty l0 x8_1).toList) = false := bne_eq_false_iff_eq.mpr c6
              clear c6
              obtain rfl := Option.some.inj H
              have p148 : 0 ≤ (x8_1 : Int) := of_decide_eq_true (by first | (with_reducible assumption) | assumption)
              have q148 : x8_1 < (l0.length : Int) := of_decide_eq_true (by first | (with_reducible assumption) | assumption)
              obtain ⟨ad148, e148, hx148_0⟩ := Kd.at_string HR0.out x8_1 p148 q148
              cases e148
              replace p148 := eq_true p148
              replace q148 := eq_true q148
              go_wp2
              go_ret
              exact ⟨by first | rfl | (simp; done) | (simp [*]; done), by repeat (first | exact Drawn0.refl _ | apply Drawn0.step)⟩
            · rw [if_neg c6] at H
              have c6b0 : (a1.toList == (rdOf ByteArray.empty l0 x8_1).toList) = false := beq_eq_false_iff_ne.mpr c6
              have c6b1 : (a1.toList != (rdOf ByteArray.empty l0 x8_1).toList) = true := bne_iff_ne.mpr c6
              have H' := Aside0.mk H
              clear H
              have p148 : 0 ≤ (x8_1 : Int) := of_decide_eq_true (by first | (with_reducible assumption) | assumption)
              have q148 : x8_1 < (l0.length : Int) := of_decide_eq_true (by first | (with_reducible assumption) | assumption)
              obtain ⟨ad148, e148, hx148_0⟩ := Kd.at_string HR0.out x8_1 p148 q148
              cases e148
              replace p148 := eq_true p148
              replace q148 := eq_true q148
              go_wp2
              go_roundg k1
              case measure => have := HK1.out; omega
              case rel => exact ⟨(wrap64 (x8_1 + 1)), (by first | rfl | (simp; done) | (simp [*]; done)), H', ⟨by have := HK1.out; omega⟩, by repeat (first | exact Drawn0.refl _ | apply Drawn0.step)⟩
          · rw [if_neg c5] at H
            exact absurd H (by simp)
        · rw [if_neg c4] at H
          exact absurd H (by simp)
      · rw [if_neg c3] at H
        have c3b0 : decide (x8_1 < (l0.length : Int)) = false := decide_eq_false c3
        clear c3
        obtain rfl := Option.some.inj H
        go_wp2
        go_ret
        exact ⟨by first | rfl | (simp; done) | (simp [*]; done), by repeat (first | exact Drawn0.refl _ | apply Drawn0.step)⟩

end Go.Proofs.Ytcnobkcddgcifaa.PT
-- printed by wprint.py (this session's program over the kit's print.py)
namespace Go.Proofs.Ytcnobkcddgcifaa.PT
open Go.RowKit Go.Proofs.YtcnobkcddgcifaaW.PrintWords Go.Proofs.YtcnobkcddgcifaaW.PrintLast Go.Proofs.YtcnobkcddgcifaaW.PrintMore
attribute [local go_sem] max2_int min2_int max_two min_two max_three min_three max_four min_four   -- for this text's walks alone
set_option linter.unusedVariables false
set_option linter.unusedSimpArgs false

/-! ### slices_Contains_string_string: function 55 -/
def slices_Contains_string_string.f (k : Nat) (l0 : List ByteArray) (a1 : ByteArray) : Option (Bool) := (slices_Index_string_string.f k l0 a1).bind fun t149 => (some (decide (t149 ≥ 0)))
theorem slices_Contains_string_string.mono : ∀ a0 a1 k, LeO (slices_Contains_string_string.f k a0 a1) (slices_Contains_string_string.f (k + 1) a0 a1) := by
  intro a0 a1 k
  unfold slices_Contains_string_string.f
  repeat' first
      | (with_reducible exact slices_Index_string_string.mono _ _ _)
      | (with_reducible exact LeO.refl _)
      | (with_reducible exact LeO.none _)
      | (with_reducible refine LeO.ite ?_ ?_)
      | (with_reducible refine LeO.bind ?_ (fun _ => ?_))
      | exact slices_Index_string_string.mono _ _ _
      | exact LeO.none _
      | refine LeO.ite ?_ ?_
      | refine LeO.bind ?_ (fun _ => ?_)
set_option maxHeartbeats 8000000 in
set_option maxRecDepth 100000 in
theorem slices_Contains_string_string.calls (k : Nat) (A0 : Option Addr) (c0 : Nat) (l0 : List ByteArray) (a1 : ByteArray) (r : Bool) (w : World) (hr0 : Kd.C Kd.string w A0 l0.length l0) (hc0 : l0.length ≤ c0) (h : slices_Contains_string_string.f k l0 a1 = some r) :
    Calls Try.prog 55 #[.slice A0 l0.length c0, .string a1] w fun e w' => e = .returned (.bool r) ∧ Drawn0 w w' := by
  have HR0 := Aside0.mk hr0
  have HC0 := Aside0.mk hc0
  clear hr0 hc0
  have H : ((slices_Index_string_string.f k l0 a1).bind fun t149 => (some (decide (t149 ≥ 0)))) = some r := h
  clear h
  replace H := Option.bind_eq_some_iff.mp H
  obtain ⟨t149, A30, H⟩ := H
  replace H : (some (decide (t149 ≥ 0))) = some r := H
  have A3 := Aside0.mk A30
  clear A30
  obtain rfl := Option.some.inj H
  go_enter Try.func55, Try.ntmps55
  go_wp2_with (first | ((with_reducible refine gate_callee (f := 69) rfl ?_); refine goesL_ (some 7) rfl rfl Try.func69 (by kernel_rfl) rfl #[.slice A0 l0.length c0, .string a1] rfl (by (try simp only [List.map_toArray, List.map_cons, List.map_nil]); first | done | rfl | (simp only [List.length_drop, List.length_take]; rfl)) ?_; (with_reducible refine (slices_Index_string_string.calls k _ _ l0 a1 t149 _ ?side1 ?side2 A3.out).mono ?_); (case side1 => repeat (first | exact HR0.out | (with_reducible refine Kd.C_alloc ?_ _) | (with_reducible refine Kd.C_drewN ?_ _) | (with_reducible refine Kd.C_drew ?_))); (case side2 => exact HC0.out); rintro e w' ⟨rfl, ⟨nd, rfl⟩⟩; refine ⟨_, rfl, ?_⟩))
  go_ret
  exact ⟨by first | rfl | (simp; done) | (simp [*]; done), by repeat (first | exact Drawn0.refl _ | apply Drawn0.step)⟩

-- NOT PRINTED: function 68 (api_Account_68)

-- NOT PRINTED: function 52 (api_Account_52)

end Go.Proofs.Ytcnobkcddgcifaa.PT
-- printed by wprint.py (this session's program over the kit's print.py)
namespace Go.Proofs.Ytcnobkcddgcifaa.PT
open Go.RowKit Go.Proofs.YtcnobkcddgcifaaW.PrintWords Go.Proofs.YtcnobkcddgcifaaW.PrintLast Go.Proofs.YtcnobkcddgcifaaW.PrintMore
attribute [local go_sem] max2_int min2_int max_two min_two max_three min_three max_four min_four   -- for this text's walks alone
set_option linter.unusedVariables false
set_option linter.unusedSimpArgs false

/-! ### tree_Find: function 28 -/
def tree_Find.f (l0 : List (S57)) (a1 : ByteArray) : Option (Int × Bool) := some (findA l0 a1)
theorem tree_Find.calls (A0 : Option Addr) (c0 : Nat) (l0 : List (S57)) (a1 : ByteArray) (r1 : Int) (r2 : Bool) (w : World) (hr0 : Kd.C k57 w A0 l0.length l0) (hc0 : l0.length ≤ c0) (h : tree_Find.f l0 a1 = some (r1, r2)) : Calls Try.prog 28 #[.slice A0 l0.length c0, .string a1] w fun e w' => e = .returned (.tuple #[.int .i64 r1, .bool r2]) ∧ Below w.heap.size w w' := by
  have hh := Option.some.inj h
  have h1 : r1 = (findA l0 a1).1 := by rw [hh]
  have h2 : r2 = (findA l0 a1).2 := by rw [hh]
  subst h1 h2
  exact find_calls l0 A0 c0 a1 w hr0 hc0

end Go.Proofs.Ytcnobkcddgcifaa.PT
-- printed by wprint.py (this session's program over the kit's print.py)
namespace Go.Proofs.Ytcnobkcddgcifaa.PT
open Go.RowKit Go.Proofs.YtcnobkcddgcifaaW.PrintWords Go.Proofs.YtcnobkcddgcifaaW.PrintLast Go.Proofs.YtcnobkcddgcifaaW.PrintMore
attribute [local go_sem] max2_int min2_int max_two min_two max_three min_three max_four min_four   -- for this text's walks alone
set_option linter.unusedVariables false
set_option linter.unusedSimpArgs false

/-! ### tree_Right: function 39 -/
def tree_Right.f (l0 : List (S57)) : Option (Bool) := some (rightA l0)
theorem tree_Right.calls (A0 : Option Addr) (c0 : Nat) (l0 : List (S57)) (r : Bool) (w : World) (hr0 : Kd.C k57 w A0 l0.length l0) (hc0 : l0.length ≤ c0) (h : tree_Right.f l0 = some r) : Calls Try.prog 39 #[.slice A0 l0.length c0] w fun e w' => e = .returned (.bool r) ∧ Below w.heap.size w w' := by
  obtain rfl := Option.some.inj h
  exact treeRight_calls l0 A0 c0 w hr0 hc0

end Go.Proofs.Ytcnobkcddgcifaa.PT
-- printed by wprint.py (this session's program over the kit's print.py)
namespace Go.Proofs.Ytcnobkcddgcifaa.PT
open Go.RowKit Go.Proofs.YtcnobkcddgcifaaW.PrintWords Go.Proofs.YtcnobkcddgcifaaW.PrintLast Go.Proofs.YtcnobkcddgcifaaW.PrintMore
attribute [local go_sem] max2_int min2_int max_two min_two max_three min_three max_four min_four   -- for this text's walks alone
set_option linter.unusedVariables false
set_option linter.unusedSimpArgs false

/-! ### tree_place: function 62 -/
def tree_place.f (l0 : List (S57)) (a1 : ByteArray) : Option (Int × Int) := (tree_Right.f l0).bind fun t150 => (if t150 = true then ((tree_Find.f l0 a1).bind fun bt151 => (if bt151.2 = true then (some (bt151.1, 0)) else (some (0, 141)))) else (some (0, 2)))
set_option maxHeartbeats 8000000 in
set_option maxRecDepth 100000 in
theorem tree_place.calls (A0 : Option Addr) (c0 : Nat) (l0 : List (S57)) (a1 : ByteArray) (r1 : Int) (r2 : Int) (w : World) (hr0 : Kd.C k57 w A0 l0.length l0) (hc0 : l0.length ≤ c0) (h : tree_place.f l0 a1 = some (r1, r2)) :
    Calls Try.prog 62 #[.slice A0 l0.length c0, .string a1] w fun e w' => e = .returned (.tuple #[.int .i64 r1, .int .i64 r2]) ∧ Below w.heap.size w w' := by
  have HR0 := Aside0.mk hr0
  have HC0 := Aside0.mk hc0
  clear hr0 hc0
  have HB := Aside0.mk (Below.refl w.heap.size w)
  have H : ((tree_Right.f l0).bind fun t150 => (if t150 = true then ((tree_Find.f l0 a1).bind fun bt151 => (if bt151.2 = true then (some (bt151.1, 0)) else (some (0, 141)))) else (some (0, 2)))) = some (r1, r2) := h
  clear h
  replace H := Option.bind_eq_some_iff.mp H
  obtain ⟨t150, A30, H⟩ := H
  replace H : (if t150 = true then ((tree_Find.f l0 a1).bind fun bt151 => (if bt151.2 = true then (some (bt151.1, 0)) else (some (0, 141)))) else (some (0, 2))) = some (r1, r2) := H
  have A3 := Aside0.mk A30
  clear A30
  by_cases c4 : t150 = true
  · subst c4
    have H1 : ((tree_Find.f l0 a1).bind fun bt151 => (if bt151.2 = true then (some (bt151.1, 0)) else (some (0, 141)))) = some (r1, r2) := by rw [if_pos rfl] at H; exact H
    clear H
    have H := H1
    clear H1
    replace H := Option.bind_eq_some_iff.mp H
    obtain ⟨⟨t151, t152⟩, A50, H⟩ := H
    replace H : (if t152 = true then (some (t151, 0)) else (some (0, 141))) = some (r1, r2) := H
    have A5 := Aside0.mk A50
    clear A50
    by_cases c6 : t152 = true
    · subst c6
      have H1 : (some (t151, 0)) = some (r1, r2) := by rw [if_pos rfl] at H; exact H
      clear H
      have H := H1
      clear H1
      simp only [Option.some.injEq, Prod.mk.injEq] at H
      obtain ⟨rfl, rfl⟩ := H
      go_enter Try.func62, Try.ntmps62
      go_wp2_with (first | ((with_reducible refine gate_callee (f := 39) rfl ?_); refine goesL_ (some 9) rfl rfl Try.func39 (by kernel_rfl) rfl #[.slice A0 l0.length c0] rfl (by (try simp only [List.map_toArray, List.map_cons, List.map_nil]); first | done | rfl | (simp only [List.length_drop, List.length_take]; rfl)) ?_; (with_reducible refine (tree_Right.calls _ _ l0 true _ ?side1 ?side2 A3.out).mono ?_); (case side1 => repeat (first | exact HR0.out | (with_reducible refine Kd.C_alloc ?_ _) | (with_reducible refine Kd.C_drewN ?_ _) | (with_reducible refine Kd.C_drew ?_))); (case side2 => exact HC0.out); rintro e w7 ⟨rfl, hb⟩; refine ⟨_, rfl, ?_⟩; have n0_ := Aside0.mk (below_step (by repeat (first | (with_reducible first | exact HB.out | apply below_alloc | apply pw_below_drewN | apply below_drew1) | exact HB.out)) hb); clear HB; have HB := n0_; clear n0_; (try clear hb); (try clear hb2); (try clear hk); (try clear hi)) | ((with_reducible refine gate_callee (f := 28) rfl ?_); refine goesL_ (some 14) rfl rfl Try.func28 (by kernel_rfl) rfl #[.slice A0 l0.length c0, .string a1] rfl (by (try simp only [List.map_toArray, List.map_cons, List.map_nil]); first | done | rfl | (simp only [List.length_drop, List.length_take]; rfl)) ?_; (with_reducible refine (tree_Find.calls _ _ l0 a1 t151 true _ ?side1 ?side2 A5.out).mono ?_); (case side1 => repeat (first | exact (Kd.C_below HR0.out HB.out) | (with_reducible refine Kd.C_alloc ?_ _) | (with_reducible refine Kd.C_drewN ?_ _) | (with_reducible refine Kd.C_drew ?_))); (case side2 => exact HC0.out); rintro e w8 ⟨rfl, hb⟩; refine ⟨_, rfl, ?_⟩; have n0_ := Aside0.mk (below_step (by repeat (first | (with_reducible first | exact HB.out | apply below_alloc | apply pw_below_drewN | apply below_drew1) | exact HB.out)) hb); clear HB; have HB := n0_; clear n0_; (try clear hb); (try clear hb2); (try clear hk); (try clear hi)))
      go_ret2
      exact ⟨by first | rfl | (simp [errW_none, errW_some] <;> rfl) | (simp [*, errW_none, errW_some] <;> rfl), by repeat (first | (with_reducible first | exact HB.out | apply below_alloc | apply pw_below_drewN | apply below_drew1) | exact HB.out)⟩
    · replace c6 := Bool.eq_false_iff.mpr c6
      subst c6
      have H1 : (some (0, 141)) = some (r1, r2) := by rw [if_neg (show ¬ (false = true) by decide)] at H; exact H
      clear H
      have H := H1
      clear H1
      simp only [Option.some.injEq, Prod.mk.injEq] at H
      obtain ⟨rfl, rfl⟩ := H
      go_enter Try.func62, Try.ntmps62
      go_wp2_with (first | ((with_reducible refine gate_callee (f := 39) rfl ?_); refine goesL_ (some 9) rfl rfl Try.func39 (by kernel_rfl) rfl #[.slice A0 l0.length c0] rfl (by (try simp only [List.map_toArray, List.map_cons, List.map_nil]); first | done | rfl | (simp only [List.length_drop, List.length_take]; rfl)) ?_; (with_reducible refine (tree_Right.calls _ _ l0 true _ ?side1 ?side2 A3.out).mono ?_); (case side1 => repeat (first | exact HR0.out | (with_reducible refine Kd.C_alloc ?_ _) | (with_reducible refine Kd.C_drewN ?_ _) | (with_reducible refine Kd.C_drew ?_))); (case side2 => exact HC0.out); rintro e w9 ⟨rfl, hb⟩; refine ⟨_, rfl, ?_⟩; have n0_ := Aside0.mk (below_step (by repeat (first | (with_reducible first | exact HB.out | apply below_alloc | apply pw_below_drewN | apply below_drew1) | exact HB.out)) hb); clear HB; have HB := n0_; clear n0_; (try clear hb); (try clear hb2); (try clear hk); (try clear hi)) | ((with_reducible refine gate_callee (f := 28) rfl ?_); refine goesL_ (some 14) rfl rfl Try.func28 (by kernel_rfl) rfl #[.slice A0 l0.length c0, .string a1] rfl (by (try simp only [List.map_toArray, List.map_cons, List.map_nil]); first | done | rfl | (simp only [List.length_drop, List.length_take]; rfl)) ?_; (with_reducible refine (tree_Find.calls _ _ l0 a1 t151 false _ ?side1 ?side2 A5.out).mono ?_); (case side1 => repeat (first | exact (Kd.C_below HR0.out HB.out) | (with_reducible refine Kd.C_alloc ?_ _) | (with_reducible refine Kd.C_drewN ?_ _) | (with_reducible refine Kd.C_drew ?_))); (case side2 => exact HC0.out); rintro e w10 ⟨rfl, hb⟩; refine ⟨_, rfl, ?_⟩; have n0_ := Aside0.mk (below_step (by repeat (first | (with_reducible first | exact HB.out | apply below_alloc | apply pw_below_drewN | apply below_drew1) | exact HB.out)) hb); clear HB; have HB := n0_; clear n0_; (try clear hb); (try clear hb2); (try clear hk); (try clear hi)))
      go_ret2
      exact ⟨by first | rfl | (simp [errW_none, errW_some] <;> rfl) | (simp [*, errW_none, errW_some] <;> rfl), by repeat (first | (with_reducible first | exact HB.out | apply below_alloc | apply pw_below_drewN | apply below_drew1) | exact HB.out)⟩
  · replace c4 := Bool.eq_false_iff.mpr c4
    subst c4
    have H1 : (some (0, 2)) = some (r1, r2) := by rw [if_neg (show ¬ (false = true) by decide)] at H; exact H
    clear H
    have H := H1
    clear H1
    simp only [Option.some.injEq, Prod.mk.injEq] at H
    obtain ⟨rfl, rfl⟩ := H
    go_enter Try.func62, Try.ntmps62
    go_wp2_with (first | ((with_reducible refine gate_callee (f := 39) rfl ?_); refine goesL_ (some 9) rfl rfl Try.func39 (by kernel_rfl) rfl #[.slice A0 l0.length c0] rfl (by (try simp only [List.map_toArray, List.map_cons, List.map_nil]); first | done | rfl | (simp only [List.length_drop, List.length_take]; rfl)) ?_; (with_reducible refine (tree_Right.calls _ _ l0 false _ ?side1 ?side2 A3.out).mono ?_); (case side1 => repeat (first | exact HR0.out | (with_reducible refine Kd.C_alloc ?_ _) | (with_reducible refine Kd.C_drewN ?_ _) | (with_reducible refine Kd.C_drew ?_))); (case side2 => exact HC0.out); rintro e w11 ⟨rfl, hb⟩; refine ⟨_, rfl, ?_⟩; have n0_ := Aside0.mk (below_step (by repeat (first | (with_reducible first | exact HB.out | apply below_alloc | apply pw_below_drewN | apply below_drew1) | exact HB.out)) hb); clear HB; have HB := n0_; clear n0_; (try clear hb); (try clear hb2); (try clear hk); (try clear hi)))
    go_ret2
    exact ⟨by first | rfl | (simp [errW_none, errW_some] <;> rfl) | (simp [*, errW_none, errW_some] <;> rfl), by repeat (first | (with_reducible first | exact HB.out | apply below_alloc | apply pw_below_drewN | apply below_drew1) | exact HB.out)⟩

end Go.Proofs.Ytcnobkcddgcifaa.PT
-- printed by wprint.py (this session's program over the kit's print.py)
namespace Go.Proofs.Ytcnobkcddgcifaa.PT
open Go.RowKit Go.Proofs.YtcnobkcddgcifaaW.PrintWords Go.Proofs.YtcnobkcddgcifaaW.PrintLast Go.Proofs.YtcnobkcddgcifaaW.PrintMore
attribute [local go_sem] max2_int min2_int max_two min_two max_three min_three max_four min_four   -- for this text's walks alone
set_option linter.unusedVariables false
set_option linter.unusedSimpArgs false

/-! ### tree_up: function 63 -/
def tree_up.l0 : Nat → List (S57) → Int → List ByteArray → Option (List ByteArray)
  | 0, _, _, _ => none
  | k + 1, x0, x1, x5 => if 0 ≤ x1 then (if x1 < (x0.length : Int) then (if ((rd_T57 x0 x1).f1).toList = ([] : List UInt8) then (some x5) else ((tree_Find.f x0 ((rd_T57 x0 x1).f1)).bind fun bt159 => (if 0 ≤ bt159.1 then (if bt159.1 < (x0.length : Int) then (if x5.length < 8796093022208 then (tree_up.l0 k x0 bt159.1 (x5 ++ [(rd_T57 x0 bt159.1).f0])) else (none)) else (none)) else (none)))) else (none)) else (none)
def tree_up.f (k : Nat) (l0 : List (S57)) (a1 : Int) : Option (List ByteArray) := if 0 ≤ a1 then (if a1 < (l0.length : Int) then (tree_up.l0 k l0 a1 (([(rd_T57 l0 a1).f0] : List ByteArray))) else (none)) else (none)
theorem tree_up.mono_l : ∀ k, (∀ y0 y1 y2, LeO (tree_up.l0 k y0 y1 y2) (tree_up.l0 (k + 1) y0 y1 y2))
  | 0 => fun _ _ _ r h => by simp [tree_up.l0] at h
  | k + 1 => by
    have ih0 := tree_up.mono_l k
    · intro y0 y1 y2
      unfold tree_up.l0
      repeat' first
      | (with_reducible exact ih0 _ _ _)
      | (with_reducible exact LeO.refl _)
      | (with_reducible exact LeO.none _)
      | (with_reducible refine LeO.ite ?_ ?_)
      | (with_reducible refine LeO.bind ?_ (fun _ => ?_))
      | exact ih0 _ _ _
      | exact LeO.none _
      | refine LeO.ite ?_ ?_
      | refine LeO.bind ?_ (fun _ => ?_)
theorem tree_up.mono : ∀ a0 a1 k, LeO (tree_up.f k a0 a1) (tree_up.f (k + 1) a0 a1) := by
  intro a0 a1 k
  have ih0 := tree_up.mono_l k
  unfold tree_up.f
  repeat' first
      | (with_reducible exact ih0 _ _ _)
      | (with_reducible exact LeO.refl _)
      | (with_reducible exact LeO.none _)
      | (with_reducible refine LeO.ite ?_ ?_)
      | (with_reducible refine LeO.bind ?_ (fun _ => ?_))
      | exact ih0 _ _ _
      | exact LeO.none _
      | refine LeO.ite ?_ ?_
      | refine LeO.bind ?_ (fun _ => ?_)
set_option maxHeartbeats 8000000 in
set_option maxRecDepth 100000 in
theorem tree_up.calls (k : Nat) (A0 : Option Addr) (c0 : Nat) (l0 : List (S57)) (a1 : Int) (r : List ByteArray) (w : World) (hr0 : Kd.C k57 w A0 l0.length l0) (hc0 : l0.length ≤ c0) (h : tree_up.f k l0 a1 = some r) :
    Calls Try.prog 63 #[.slice A0 l0.length c0, .int .i64 a1] w fun e w' => ∃ v0_ : Value, e = .returned (v0_) ∧ Kd.R Kd.string 9 w' w.heap.size (fun _ => True) v0_ r ∧ Below w.heap.size w w' := by
  have HR0 := Aside0.mk hr0
  have HC0 := Aside0.mk hc0
  clear hr0 hc0
  have HB := Aside0.mk (Below.refl w.heap.size w)
  have H : (if 0 ≤ a1 then (if a1 < (l0.length : Int) then (tree_up.l0 k l0 a1 (([(rd_T57 l0 a1).f0] : List ByteArray))) else (none)) else (none)) = some r := h
  clear h
  by_cases c3 : 0 ≤ a1
  · rw [if_pos c3] at H
    have c3b0 : decide (0 ≤ a1) = true := decide_eq_true c3
    clear c3
    by_cases c4 : a1 < (l0.length : Int)
    · rw [if_pos c4] at H
      have c4b0 : decide (a1 < (l0.length : Int)) = true := decide_eq_true c4
      clear c4
      obtain ⟨y154, hy154⟩ : ∃ y_ : List ByteArray, y_ = (([(rd_T57 l0 a1).f0] : List ByteArray)) := ⟨_, rfl⟩
      replace H : (tree_up.l0 k l0 a1 y154) = some r := by first | (rw [hy154]; with_reducible exact H) | (have H2_ := (Option.bind_some _ _).symm.trans H; rw [hy154]; with_reducible exact H2_) | (have H2_ := (Option.bind_some _ _).symm.trans H; with_reducible exact H2_) | with_reducible exact H | (rw [hy154]; exact H) | exact H
      have Ny154 := Aside0.mk hy154
      clear hy154
      have H' := Aside0.mk H
      clear H
      have p153 : 0 ≤ (a1 : Int) := of_decide_eq_true (by first | (with_reducible assumption) | assumption)
      have q153 : a1 < (l0.length : Int) := of_decide_eq_true (by first | (with_reducible assumption) | assumption)
      obtain ⟨ad153, e153, hx153_0, hx153_1, hx153_2⟩ := at_T57 HR0.out a1 p153 q153
      cases e153
      replace p153 := eq_true p153
      replace q153 := eq_true q153
      go_enter Try.func63, Try.ntmps63
      go_wp2_with (first | ((with_reducible refine gate_dst (N := 11) rfl ?_); refine Kd.R_lit Kd.string _ 9 ?hg (N := 11) ?hd (xs := ([(rd_T57 l0 a1).f0] : List ByteArray)) (inner := [.string ((rd_T57 l0 a1).f0)]) (ok := fun _ => True) (okp := fun _ => True) ?hr ?hp (fun _ hk => hk) trivial (Below.refl _ _) (Nat.le_refl _) (by simp) ?_; (case hd => rfl); (case hg => rfl); (case hr => first | (go_simp; done) | (go_simp; rfl)); (case hp => exact (Reps.one (show Kd.M Kd.string _ _ _ ((rd_T57 l0 a1).f0) [.string ((rd_T57 l0 a1).f0)] from rfl) (Reps.none _ _))); intro v155 w5 ho6 hb hg_ hnew_; clear hg_ hnew_; (first | rw [← Ny154.out] at ho6 | (simp only [Int.reduceToNat] at ho6; rw [← Ny154.out] at ho6)); have n0_ := Aside0.mk (Kd.R_lower ho6 (below_size (by repeat (first | (with_reducible first | exact HB.out | apply below_alloc | apply pw_below_drewN | apply below_drew1) | exact HB.out)))); have n1_ := Aside0.mk (below_step (by repeat (first | (with_reducible first | exact HB.out | apply below_alloc | apply pw_below_drewN | apply below_drew1) | exact HB.out)) hb); clear HB; have HO156 := n0_; have HB := n1_; clear n0_ n1_; clear hb ho6))
      go_loopg [1, 5] k (fun kq v1 v5 w' => ∃ (x1_1 : Int) (x5_1 : List ByteArray), v1 = .int .i64 x1_1 ∧ Aside0 (tree_up.l0 kq l0 x1_1 x5_1 = some r) ∧ Aside0 (kq ≤ k) ∧ Aside0 (Kd.R Kd.string 9 w' w.heap.size (fun _ => True) v5 x5_1) ∧ Aside0 (Below w.heap.size w w'))
      case atStart => exact ⟨(a1), (y154), (by first | rfl | (simp; done) | (simp [*]; done)), H', ⟨Nat.le_refl _⟩, ⟨by (with_reducible repeat (first | apply Kd.R_alloc | apply Kd.R_drewN | apply Kd.R_drew)); exact HO156.out⟩, ⟨by repeat (first | (with_reducible first | exact HB.out | apply below_alloc | apply pw_below_drewN | apply below_drew1) | exact HB.out)⟩⟩
      case round =>
        clear H'
        try clear p1
        try clear q1
        try clear hx1
        try clear p2
        try clear c3
        try clear c3b0
        try clear c4
        try clear c4b0
        try clear c6
        try clear hx153_0
        try clear hx153_1
        try clear hx153_2
        try clear p153
        try clear q153
        obtain ⟨x1_1, x5_1, rfl, HA, HK1, HO_5, HB⟩ := hrel
        cases gk with
        | zero => exact absurd HA.out (by simp [tree_up.l0])
        | succ k1 =>
          have H := HA.out
          clear HA
          simp only [tree_up.l0] at H
          by_cases c7 : 0 ≤ x1_1
          · rw [if_pos c7] at H
            have c7b0 : decide (0 ≤ x1_1) = true := decide_eq_true c7
            clear c7
            by_cases c8 : x1_1 < (l0.length : Int)
            · rw [if_pos c8] at H
              have c8b0 : decide (x1_1 < (l0.length : Int)) = true := decide_eq_true c8
              clear c8
              by_cases c9 : ((rd_T57 l0 x1_1).f1).toList = ([] : List UInt8)
              · rw [if_pos c9] at H
                have c9b0 : (((rd_T57 l0 x1_1).f1).toList == ([] : List UInt8)) = true := beq_iff_eq.mpr c9
                have c9b1 : (((rd_T57 l0 x1_1).f1).toList != ([] : List UInt8)) = false := bne_eq_false_iff_eq.mpr c9
                clear c9
                obtain rfl := Option.some.inj H
                have p157 : 0 ≤ (x1_1 : Int) := of_decide_eq_true (by first | (with_reducible assumption) | assumption)
                have q157 : x1_1 < (l0.length : Int) := of_decide_eq_true (by first | (with_reducible assumption) | assumption)
                obtain ⟨ad157, e157, hx157_0, hx157_1, hx157_2⟩ := at_T57 HR0.out x1_1 p157 q157
                obtain rfl : ad153 = ad157 := (by injection e157)
                replace hx157_0 := (HB.out.cell (World.block_lt_of_cell? w _ hx157_0)).trans hx157_0
                replace hx157_1 := (HB.out.cell (World.block_lt_of_cell? w _ hx157_1)).trans hx157_1
                replace hx157_2 := (HB.out.cell (World.block_lt_of_cell? w _ hx157_2)).trans hx157_2
                replace p157 := eq_true p157
                replace q157 := eq_true q157
                go_wp2
                go_ret
                exact ⟨_, by first | rfl | (simp [errW_none, errW_some] <;> rfl) | (simp [*, errW_none, errW_some] <;> rfl), by (with_reducible repeat (first | apply Kd.R_alloc | apply Kd.R_drewN | apply Kd.R_drew)); exact HO_5.out, by repeat (first | (with_reducible first | exact HB.out | apply below_alloc | apply pw_below_drewN | apply below_drew1) | exact HB.out)⟩
              · rw [if_neg c9] at H
                have c9b0 : (((rd_T57 l0 x1_1).f1).toList == ([] : List UInt8)) = false := beq_eq_false_iff_ne.mpr c9
                have c9b1 : (((rd_T57 l0 x1_1).f1).toList != ([] : List UInt8)) = true := bne_iff_ne.mpr c9
                replace H := Option.bind_eq_some_iff.mp H
                obtain ⟨⟨t159, t160⟩, A100, H⟩ := H
                replace H : (if 0 ≤ t159 then (if t159 < (l0.length : Int) then (if x5_1.length < 8796093022208 then (tree_up.l0 k1 l0 t159 (x5_1 ++ [(rd_T57 l0 t159).f0])) else (none)) else (none)) else (none)) = some r := H
                have A10 := Aside0.mk A100
                clear A100
                by_cases c11 : 0 ≤ t159
                · rw [if_pos c11] at H
                  have c11b0 : decide (0 ≤ t159) = true := decide_eq_true c11
                  clear c11
                  by_cases c12 : t159 < (l0.length : Int)
                  · rw [if_pos c12] at H
                    have c12b0 : decide (t159 < (l0.length : Int)) = true := decide_eq_true c12
                    clear c12
                    by_cases c13 : x5_1.length < 8796093022208
                    · rw [if_pos c13] at H
                      have LMc13 := Aside0.mk c13
                      clear c13
                      obtain ⟨y162, hy162⟩ : ∃ y_ : List ByteArray, y_ = (x5_1 ++ [(rd_T57 l0 t159).f0]) := ⟨_, rfl⟩
                      replace H : (tree_up.l0 k1 l0 t159 y162) = some r := by first | (rw [hy162]; with_reducible exact H) | (have H2_ := (Option.bind_some _ _).symm.trans H; rw [hy162]; with_reducible exact H2_) | (have H2_ := (Option.bind_some _ _).symm.trans H; with_reducible exact H2_) | with_reducible exact H | (rw [hy162]; exact H) | exact H
                      have Ny162 := Aside0.mk hy162
                      clear hy162
                      have H' := Aside0.mk H
                      clear H
                      have p157 : 0 ≤ (x1_1 : Int) := of_decide_eq_true (by first | (with_reducible assumption) | assumption)
                      have q157 : x1_1 < (l0.length : Int) := of_decide_eq_true (by first | (with_reducible assumption) | assumption)
                      obtain ⟨ad157, e157, hx157_0, hx157_1, hx157_2⟩ := at_T57 HR0.out x1_1 p157 q157
                      obtain rfl : ad153 = ad157 := (by injection e157)
                      replace hx157_0 := (HB.out.cell (World.block_lt_of_cell? w _ hx157_0)).trans hx157_0
                      replace hx157_1 := (HB.out.cell (World.block_lt_of_cell? w _ hx157_1)).trans hx157_1
                      replace hx157_2 := (HB.out.cell (World.block_lt_of_cell? w _ hx157_2)).trans hx157_2
                      replace p157 := eq_true p157
                      replace q157 := eq_true q157
                      have p158 : 0 ≤ (x1_1 : Int) := of_decide_eq_true (by first | (with_reducible assumption) | assumption)
                      have q158 : x1_1 < (l0.length : Int) := of_decide_eq_true (by first | (with_reducible assumption) | assumption)
                      obtain ⟨ad158, e158, hx158_0, hx158_1, hx158_2⟩ := at_T57 HR0.out x1_1 p158 q158
                      obtain rfl : ad153 = ad158 := (by injection e158)
                      replace hx158_0 := (HB.out.cell (World.block_lt_of_cell? w _ hx158_0)).trans hx158_0
                      replace hx158_1 := (HB.out.cell (World.block_lt_of_cell? w _ hx158_1)).trans hx158_1
                      replace hx158_2 := (HB.out.cell (World.block_lt_of_cell? w _ hx158_2)).trans hx158_2
                      replace p158 := eq_true p158
                      replace q158 := eq_true q158
                      go_wp2_with (first | ((with_reducible refine gate_callee (f := 28) rfl ?_); refine goesL_ (some 25) rfl rfl Try.func28 (by kernel_rfl) rfl #[.slice (some ad153) l0.length c0, .string ((rd_T57 l0 x1_1).f1)] rfl (by (try simp only [List.map_toArray, List.map_cons, List.map_nil]); first | done | rfl | (simp only [List.length_drop, List.length_take]; rfl)) ?_; (with_reducible refine (tree_Find.calls _ _ l0 ((rd_T57 l0 x1_1).f1) t159 t160 _ ?side1 ?side2 A10.out).mono ?_); (case side1 => repeat (first | exact (Kd.C_below HR0.out HB.out) | (with_reducible refine Kd.C_alloc ?_ _) | (with_reducible refine Kd.C_drewN ?_ _) | (with_reducible refine Kd.C_drew ?_))); (case side2 => exact HC0.out); rintro e w14 ⟨rfl, hb⟩; refine ⟨_, rfl, ?_⟩; have n0_ := Aside0.mk (Kd.R_below (by (with_reducible repeat (first | apply Kd.R_alloc | apply Kd.R_drewN | apply Kd.R_drew)); exact HO_5.out) hb); have n1_ := Aside0.mk (below_step (by repeat (first | (with_reducible first | exact HB.out | apply below_alloc | apply pw_below_drewN | apply below_drew1) | exact HB.out)) hb); clear HO_5; clear HB; have HO_5 := n0_; have HB := n1_; clear n0_ n1_; (try clear hb); (try clear hb2); (try clear hk); (try clear hi); have p161 : 0 ≤ (t159 : Int) := of_decide_eq_true (by first | (with_reducible assumption) | assumption); have q161 : t159 < (l0.length : Int) := of_decide_eq_true (by first | (with_reducible assumption) | assumption); obtain ⟨ad161, e161, hx161_0, hx161_1, hx161_2⟩ := at_T57 HR0.out t159 p161 q161; obtain rfl : ad153 = ad161 := (by injection e161); replace hx161_0 := (HB.out.cell (World.block_lt_of_cell? w _ hx161_0)).trans hx161_0; replace hx161_1 := (HB.out.cell (World.block_lt_of_cell? w _ hx161_1)).trans hx161_1; replace hx161_2 := (HB.out.cell (World.block_lt_of_cell? w _ hx161_2)).trans hx161_2; replace p161 := eq_true p161; replace q161 := eq_true q161) | ((with_reducible refine gate_builtin (b := .append) (xs := #[.tmp 28, .tmp 34]) rfl ?_); at_builtin; refine Kd.R_append Kd.string (w0 := w) w.heap.size rfl (.tmp 28) (.tmp 34) 70 9 (.string ⟨#[]⟩) 16 rfl Try.underlying70 info9 rfl (by decide) (by omega) u5 x5_1 ((rd_T57 l0 t159).f0) [.string ((rd_T57 l0 t159).f0)] (fun _ => True) (fun _ => False) rfl rfl ?aP (fun _ hk => hk.elim) ?aF ?aO ?aB ?aS ?aL ?_; (case aP => exact rfl); (case aB => exact (by repeat (first | (with_reducible first | exact HB.out | apply below_alloc | apply pw_below_drewN | apply below_drew1) | exact HB.out))); (case aF => exact (fun _ _ => trivial)); (case aO => exact (by (with_reducible repeat (first | apply Kd.R_alloc | apply Kd.R_drewN | apply Kd.R_drew)); exact HO_5.out)); (case aS => exact (below_size (by repeat (first | (with_reducible first | exact HB.out | apply below_alloc | apply pw_below_drewN | apply below_drew1) | exact HB.out)))); (case aL => have := LMc13.out; omega); intro v163 w15 ho hb hg hat; rw [← Ny162.out] at ho; have n0_ := Aside0.mk (hb); have n1_ := Aside0.mk (ho); clear HB; clear HO_5; have HB := n0_; have HO164 := n1_; clear n0_ n1_; clear ho hb hg hat))
                      go_roundg k1
                      case measure => have := HK1.out; omega
                      case rel => exact ⟨(t159), (y162), (by first | rfl | (simp; done) | (simp [*]; done)), H', ⟨by have := HK1.out; omega⟩, ⟨by (with_reducible repeat (first | apply Kd.R_alloc | apply Kd.R_drewN | apply Kd.R_drew)); exact HO164.out⟩, ⟨by repeat (first | (with_reducible first | exact HB.out | apply below_alloc | apply pw_below_drewN | apply below_drew1) | exact HB.out)⟩⟩
                    · rw [if_neg c13] at H
                      exact absurd H (by simp)
                  · rw [if_neg c12] at H
                    exact absurd H (by simp)
                · rw [if_neg c11] at H
                  exact absurd H (by simp)
            · rw [if_neg c8] at H
              exact absurd H (by simp)
          · rw [if_neg c7] at H
            exact absurd H (by simp)
    · rw [if_neg c4] at H
      exact absurd H (by simp)
  · rw [if_neg c3] at H
    exact absurd H (by simp)

end Go.Proofs.Ytcnobkcddgcifaa.PT
