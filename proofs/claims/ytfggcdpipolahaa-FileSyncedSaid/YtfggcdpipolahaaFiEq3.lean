/- Three texts are compared. -/
import Derived.Test.YtfggcdpipolahaaFiCalls
import Derived.ChangeKeysEq
set_option linter.unusedVariables false
set_option linter.unusedSimpArgs false
namespace Go.Proofs.Ytfggcdpipolahaa.PF
open Go.RowKit Go.Proofs.YtfggcdpipolahaaW.PrintWords Go.Proofs.YtfggcdpipolahaaW.PrintLast Go.Proofs.YtfggcdpipolahaaW.PrintMore
def same3 (x y : Fs) : Bool := ((strOfNums x.a).toList == (strOfNums y.a).toList) && (((strOfNums x.b).toList == (strOfNums y.b).toList) && ((strOfNums x.c).toList == (strOfNums y.c).toList))
theorem same3_refl (x : Fs) : same3 x x = true := by unfold same3; simp
theorem cells_str : Try.prog.cellsOf 9 = 1 := by kernel_rfl
theorem eq3_guard (p q : Operand) (x y : Fs) (W : World) : (eqGuard .eql 38 p q x.strs (.agg #[.string (strOfNums y.a), .string (strOfNums y.b), .string (strOfNums y.c)])).run Try.prog W = .ok () W :=
  run_eqGuard_agg W .eql 38 p q _ _ (by kernel_rfl)
theorem eq3 (x y : Fs) (W : World) : (binOp .eql 38 x.strs (.agg #[.string (strOfNums y.a), .string (strOfNums y.b), .string (strOfNums y.c)])).run Try.prog W = .ok (.bool (same3 x y)) W := by
  obtain ⟨i, hi⟩ : ∃ i, Try.prog.info? 9 = some i := by
    have h : (Try.prog.info? 9).isSome = true := by kernel_rfl
    exact Option.isSome_iff_exists.1 h
  have hs : ∀ (a b : ByteArray) (W : World), (Op.equalIn 9999 9 (.string a) (.string b)).run Try.prog W = .ok (a.toList == b.toList) W := fun a b W => run_equalIn_string (P := Try.prog) W 9998 9 a b Try.underlying9
  unfold Fs.strs
  rw [run_eql_struct, run_equalIn_array (P := Try.prog) W 9999 _ _ Try.underlying38 hi, cells_str]
  have hk : Try.prog.plainKey 9 = true := by kernel_rfl
  have p0 : ∀ (a b c : ByteArray) (W : World), (part 9 #[.string a, .string b, .string c] 0).run Try.prog W = .ok (.string a) W := fun a b c W => run_part_plain W hk rfl
  have p1 : ∀ (a b c : ByteArray) (W : World), (part 9 #[.string a, .string b, .string c] 1).run Try.prog W = .ok (.string b) W := fun a b c W => run_part_plain W hk rfl
  have p2 : ∀ (a b c : ByteArray) (W : World), (part 9 #[.string a, .string b, .string c] 2).run Try.prog W = .ok (.string c) W := fun a b c W => run_part_plain W hk rfl
  rw [show List.range 3 = [0, 1, 2] from rfl]
  unfold same3
  simp only [Op.eqItems, Sem.run_bind, Nat.mul_one, p0, p1, p2, hs, Result.andThen_ok]
  by_cases h1 : (strOfNums x.a).toList = (strOfNums y.a).toList <;> by_cases h2 : (strOfNums x.b).toList = (strOfNums y.b).toList <;> by_cases h3 : (strOfNums x.c).toList = (strOfNums y.c).toList <;> simp [Result.andThen, p0, p1, p2, hs, h1, h2, h3]
theorem eq3_same (x : Fs) (W : World) : (binOp .eql 38 x.strs (.agg #[.string (strOfNums x.a), .string (strOfNums x.b), .string (strOfNums x.c)])).run Try.prog W = .ok (.bool true) W := by
  rw [eq3, same3_refl]
end Go.Proofs.Ytfggcdpipolahaa.PF
