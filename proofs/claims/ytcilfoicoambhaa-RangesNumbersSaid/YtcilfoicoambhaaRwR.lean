import Derived.Test.YtcilfoicoambhaaRg5
import Derived.Test.YtcilfoicoambhaaFwRow
import Derived.Test.YtcilfoicoambhaaRows
set_option linter.unusedVariables false
set_option linter.unusedSimpArgs false
set_option maxRecDepth 100000
namespace Go.Proofs.Ytcilfoicoambhaa
open Go Go.Hw Go.RowKit Go.ChangeShapes Go.WideShapes

theorem Try.own : ownKnob Try.prog.godebug = none := by kernel_rfl
theorem Try.laidOut : laidOutB Try.prog = true := by kernel_rfl
theorem cells30 : Try.prog.cellsOf 30 = 1 := by kernel_rfl
theorem cells67 : Try.prog.cellsOf 67 = 2 := by kernel_rfl
theorem u64_wf {n : Int} (h : (Lit.int .u64 n).wf = true) : ∃ k : Nat, n = (k : Int) ∧ k < 18446744073709551616 := by
  have h1 : 0 ≤ n ∧ n < 18446744073709551616 := by
    simp [Lit.wf, IntKind.min, IntKind.max, IntKind.bits, IntKind.signed] at h
    omega
  exact ⟨n.toNat, by omega, by omega⟩
section
variable {H : Type} {enc : TypeId × Value → H} {W : World}
theorem dec_rg {r : List Value} (hl : r.length = 2) (h : RdC enc Try.prog W 67 r) : ∃ x : Rg, r = rg1 x ∧ x.1 < 18446744073709551616 ∧ x.2 < 18446744073709551616 := by
  obtain ⟨_, h⟩ := RdC.struct Try.underlying67 h
  match r, hl with
  | [r0, r1], _ =>
    have h0 : RdC enc Try.prog W 30 (([r0, r1].drop 0).take (Try.prog.cellsOf 30)) := h 0 _ rfl
    have h1 : RdC enc Try.prog W 30 (([r0, r1].drop 1).take (Try.prog.cellsOf 30)) := h 1 _ rfl
    rw [cells30] at h0 h1
    obtain ⟨n0, e0, w0⟩ := RdC.int Try.underlying30 h0
    obtain ⟨n1, e1, w1⟩ := RdC.int Try.underlying30 h1
    obtain ⟨k0, rfl, q0⟩ := u64_wf w0
    obtain ⟨k1, rfl, q1⟩ := u64_wf w1
    simp at e0 e1
    subst e0 e1
    exact ⟨(k0, k1), rfl, q0, q1⟩
/-- A slice of ranges that is handed in. -/
theorem arg_ranges {base : Nat} {v : Value} {d : DataW H} {ps : List MemPlace} (hv : Value.okWide Try.prog W .any base 34 v) (h : DataW.Trod enc Try.prog W 0 (fun _ => true) true 34 v d ps) :
    ∃ A c, ∃ l : List Rg, v = .slice A l.length c ∧ l.length ≤ 9223372036854775807 ∧ Wide l ∧ Sl W [] 2 A l.length (rgC l) := by
  obtain ⟨a0, n0, c0, rfl⟩ := okWide_slice Try.underlying34 hv
  obtain ⟨A, c, l, e, h1, h2, h3, h4⟩ := RdC.list rg1 (fun x => x.1 < 18446744073709551616 ∧ x.2 < 18446744073709551616) Try.underlying34 cells67 (by decide) rg1_len rg1_one (fun r hr hrd => dec_rg hr hrd) (RdC.of h)
  have f0 : a0 = A ∧ n0 = l.length ∧ c0 = c := by simpa [Value.cells] using e
  obtain ⟨rfl, rfl, rfl⟩ := f0
  unfold maxLen at h2
  exact ⟨_, _, l, rfl, by omega, h3, h4⟩
/-- A range that is handed in. -/
theorem arg_range {base : Nat} {v : Value} {d : DataW H} {ps : List MemPlace} (hv : Value.okWide Try.prog W .any base 67 v) (h : DataW.Trod enc Try.prog W 0 (fun _ => true) true 67 v d ps) :
    ∃ x y : Nat, v = .agg #[.int .u64 (x : Nat), .int .u64 (y : Nat)] ∧ x < 18446744073709551616 ∧ y < 18446744073709551616 := by
  unfold Value.okWide at hv
  rw [Try.underlying67] at hv
  obtain ⟨cs, rfl, hcs, _⟩ := hv
  rw [cells67] at hcs
  obtain ⟨⟨x, y⟩, e, h1, h2⟩ := dec_rg (r := cs.toList) (by simpa using hcs) (RdC.of h)
  refine ⟨x, y, ?_, h1, h2⟩
  congr 1
  apply Array.ext'
  rw [e]
  rfl
theorem arg_u64 {base : Nat} {v : Value} {d : DataW H} {ps : List MemPlace} (hv : Value.okWide Try.prog W .any base 30 v) (h : DataW.Trod enc Try.prog W 0 (fun _ => true) true 30 v d ps) :
    ∃ n : Nat, v = .int .u64 (n : Nat) ∧ n < 18446744073709551616 := by
  obtain ⟨a, rfl, _, _, wa⟩ := open_int Try.underlying30 hv h
  obtain ⟨k, rfl, hk⟩ := u64_wf wa
  exact ⟨k, rfl, hk⟩
end
end Go.Proofs.Ytcilfoicoambhaa
