/- However much is written, never is more sent than the credit, nor more new bytes at once than are told: mailcoachlaw16.StreamCredit returns true for every input. Conditions: none. -/
import Derived.Test.YtcilfoicoambhaaSt16
import Derived.Test.YtcilfoicoambhaaFwRow
import Derived.Test.YtcilfoicoambhaaRows
set_option linter.unusedVariables false
set_option linter.unusedSimpArgs false
set_option maxRecDepth 100000
namespace Go.Proofs.Ytcilfoicoambhaa
open Go Go.Hw Go.RowKit Go.ChangeShapes Go.WideShapes

theorem Try.own : ownKnob Try.prog.godebug = none := by kernel_rfl
theorem Try.laidOut : laidOutB Try.prog = true := by kernel_rfl
theorem cells5 : Try.prog.cellsOf 5 = 1 := by kernel_rfl
theorem cells39 : Try.prog.cellsOf 39 = 2 := by kernel_rfl

theorem flatMap_pair (xs : List (UInt8 × UInt8)) : (xs.flatMap fun p => [Value.int .u8 (p.1.toNat : Int), .int .u8 (p.2.toNat : Int)]) = pairC xs := rfl

theorem streamCredit_lifted (os : Os) (started : os.Started) (H : Type) (enc : TypeId × Value → H) :
    ReturnsInHanded {} Try.checked os 3 .any (Rows.streamCreditSpec.pre6 enc Try.prog Try.f3 Rows.streamCreditRow.domain false) (Rows.streamCreditSpec.post enc Try.prog Try.f3 false true false false) := by
  refine returnsInHanded_of_change (C := Try.checked) Try.own started (by kernel_rfl) Try.func3
    (ChangeSpec.witness6 (enc := enc) (C := Try.checked) false ⟨#[], #[.slice none 0 0, .int .u16 0, .slice none 0 0], []⟩ 8 (by kernel_rfl) (by kernel_rfl) (by kernel_rfl) (by kernel_rfl)) ?_
  intro W base args ds gs before hval0 hW hcnd _
  have hval : ∀ (j : Nat) t v, Try.f3.params[j]? = some t → args[j]? = some v → Value.okWide Try.prog W .any base t v := hval0
  have hW' : DataW.Whole enc Try.prog Try.f3.params.toList Rows.streamCreditSpec.vars false W args.toList ds gs before := hW
  obtain ⟨p, q, hA0, hV, rfl, hfz, hnd⟩ := hW
  have hA : DataW.TrodAll enc Try.prog W 0 (fun _ => true) true Try.f3.params.toList args.toList ds p := hA0
  rw [Try.params3] at hA hval
  obtain ⟨v0, v1, v2, d0, d1, d2, p0, p1, p2, rfl, rfl, rfl, h0, h1, h2⟩ := trodAll_three hA
  obtain ⟨rfl, rfl⟩ := trodVars_none hV
  obtain ⟨a0, n0, c0, rfl⟩ := okWide_slice Try.underlying22 (hval 0 22 v0 rfl rfl)
  obtain ⟨a2, n2, c2, rfl⟩ := okWide_slice Try.underlying24 (hval 2 24 v2 rfl rfl)
  obtain ⟨a, rfl, _, _, wa⟩ := open_int Try.underlying23 (hval 1 23 v1 rfl rfl) h1
  obtain ⟨A, c, xs, e0, hx1, hx2, hs⟩ := RdC.bytes Try.underlying22 Try.underlying5 cells5 (RdC.of h0)
  obtain ⟨A2, c', ps, e2, hp1, hp2, _, hl⟩ := RdC.list (fun p : UInt8 × UInt8 => [Value.int .u8 (p.1.toNat : Int), .int .u8 (p.2.toNat : Int)]) (fun _ => True) Try.underlying24 cells39 (by decide) (fun _ => rfl)
    (by intro x u hu; simp at hu; rcases hu with rfl | rfl <;> rfl)
    (fun r hr hrd => by
      obtain ⟨_, h⟩ := RdC.arr Try.underlying39 hrd
      rw [cells5] at h
      match r, hr with
      | [r0, r1], _ =>
        obtain ⟨n0, e0, w0⟩ := RdC.int Try.underlying5 (h 0 (by decide))
        obtain ⟨n1, e1, w1⟩ := RdC.int Try.underlying5 (h 1 (by decide))
        obtain ⟨b0, rfl⟩ := u8_wf w0
        obtain ⟨b1, rfl⟩ := u8_wf w1
        simp at e0 e1
        subst e0 e1
        exact ⟨(b0, b1), rfl, trivial⟩) (RdC.of h2)
  have f0 : a0 = A ∧ n0 = xs.length ∧ c0 = c := by simpa [Value.cells] using e0
  have f2 : a2 = A2 ∧ n2 = ps.length ∧ c2 = c' := by simpa [Value.cells] using e2
  obtain ⟨rfl, rfl, rfl⟩ := f0
  obtain ⟨rfl, rfl, rfl⟩ := f2
  obtain ⟨cr, rfl, hcr⟩ : ∃ cr : Nat, a = (cr : Int) ∧ cr ≤ 65535 := by
    simp [Lit.wf, IntKind.min, IntKind.max, IntKind.bits, IntKind.signed] at wa
    exact ⟨a.toNat, by omega, by omega⟩
  unfold maxLen at hx2 hp2
  refine (law_calls (streamCredit hs hl hcr (by omega) (by omega)) (fun v R h => h.1)).mono fun e W' ⟨he, hb⟩ => ?_
  subst he
  exact ⟨_, rfl, law_post Try.laidOut (by kernel_rfl) (by kernel_rfl) Try.underlying4 rfl hW' rfl hb⟩

theorem streamCredit_holds : Rows.StreamCreditSaid :=
  OpenClaim.holds_of_wide 3 Try.f3 rfl rfl rfl rfl rfl rfl rfl ⟨rfl, rfl, rfl, rfl, rfl⟩ rfl rfl rfl rfl rfl (by kernel_rfl) Try.func3 (by kernel_rfl)
    (of_decide_eq_true (by kernel_rfl)) (by unfold Func.isWrapper; first | (rw [if_pos (by decide +kernel)]; kernel_rfl) | (rw [if_neg (by decide +kernel)]; exact ⟨rfl, rfl⟩))
    (fun os started H enc _ => streamCredit_lifted os started H enc)
end Go.Proofs.Ytcilfoicoambhaa
