/- A set to which numbers are added one by one has just these numbers, whatever their order: mailcoachlaw08.RangesNumbers returns true for every input. Conditions: none. -/
import Derived.Test.YtcilfoicoambhaaLNum
import Derived.Test.YtcilfoicoambhaaRwR
set_option linter.unusedVariables false
set_option linter.unusedSimpArgs false
set_option maxRecDepth 100000
namespace Go.Proofs.Ytcilfoicoambhaa
open Go Go.Hw Go.RowKit Go.ChangeShapes Go.WideShapes

theorem cells5 : Try.prog.cellsOf 5 = 1 := by kernel_rfl
/-- Bytes that are handed in. -/
theorem arg_bytes {H : Type} {enc : TypeId × Value → H} {W : World} {base : Nat} {v : Value} {d : DataW H} {ps : List MemPlace} (hv : Value.okWide Try.prog W .any base 22 v) (h : DataW.Trod enc Try.prog W 0 (fun _ => true) true 22 v d ps) :
    ∃ A c, ∃ l : List UInt8, v = .slice A l.length c ∧ l.length ≤ c ∧ c ≤ maxLen ∧ Sl W [] 1 A l.length (u8C l) := by
  obtain ⟨a0, n0, c0, rfl⟩ := okWide_slice Try.underlying22 hv
  obtain ⟨A, c, l, e, h1, h2, h3⟩ := RdC.bytes Try.underlying22 Try.underlying5 cells5 (RdC.of h)
  have f0 : a0 = A ∧ n0 = l.length ∧ c0 = c := by simpa [Value.cells] using e
  obtain ⟨rfl, rfl, rfl⟩ := f0
  exact ⟨_, _, l, rfl, h1, h2, h3⟩

theorem rangesNumbers_lifted (os : Os) (started : os.Started) (H : Type) (enc : TypeId × Value → H) :
    ReturnsInHanded {} Try.checked os 13 .any (Rows.rangesNumbersSpec.pre6 enc Try.prog Try.f13 Rows.rangesNumbersRow.domain false) (Rows.rangesNumbersSpec.post enc Try.prog Try.f13 false true false false) := by
  refine returnsInHanded_of_change (C := Try.checked) Try.own started (by kernel_rfl) Try.func13
    (ChangeSpec.witness6 (enc := enc) (C := Try.checked) false ⟨#[], #[.slice none 0 0], []⟩ 8 (by kernel_rfl) (by kernel_rfl) (by kernel_rfl) (by kernel_rfl)) ?_
  intro W base args ds gs before hval0 hW hcnd _
  have hval : ∀ (j : Nat) t v, Try.f13.params[j]? = some t → args[j]? = some v → Value.okWide Try.prog W .any base t v := hval0
  have hW' : DataW.Whole enc Try.prog Try.f13.params.toList Rows.rangesNumbersSpec.vars false W args.toList ds gs before := hW
  obtain ⟨p, q, hA0, hV, rfl, hfz, hnd⟩ := hW
  have hA : DataW.TrodAll enc Try.prog W 0 (fun _ => true) true Try.f13.params.toList args.toList ds p := hA0
  rw [Try.params13] at hA hval
  obtain ⟨v0, d0, rfl, rfl, h0⟩ := trodAll_one hA
  obtain ⟨rfl, rfl⟩ := trodVars_none hV
  obtain ⟨A, c, l, rfl, hx, hy, hs⟩ := arg_bytes (hval 0 22 v0 rfl rfl) h0
  refine (law_calls (rangesNumbers (c := c) hs) (fun v R h => h.1)).mono fun e W' ⟨he, hb⟩ => ?_
  subst he
  exact ⟨_, rfl, law_post Try.laidOut (by kernel_rfl) (by kernel_rfl) Try.underlying4 rfl hW' rfl hb⟩

theorem rangesNumbers_holds : Rows.RangesNumbersSaid :=
  OpenClaim.holds_of_wide 13 Try.f13 rfl rfl rfl rfl rfl rfl rfl ⟨rfl, rfl, rfl, rfl, rfl⟩ rfl rfl rfl rfl rfl (by kernel_rfl) Try.func13 (by kernel_rfl)
    (of_decide_eq_true (by kernel_rfl)) (by unfold Func.isWrapper; first | (rw [if_pos (by decide +kernel)]; kernel_rfl) | (rw [if_neg (by decide +kernel)]; exact ⟨rfl, rfl⟩))
    (fun os started H enc _ => rangesNumbers_lifted os started H enc)
end Go.Proofs.Ytcilfoicoambhaa
