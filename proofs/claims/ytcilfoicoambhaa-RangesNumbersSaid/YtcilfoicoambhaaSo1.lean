import Derived.Test.YtcilfoicoambhaaEn
import Derived.Test.YtcilfoicoambhaaSortF
set_option linter.unusedVariables false
set_option linter.unusedSimpArgs false
set_option maxRecDepth 20000
set_option maxHeartbeats 1000000
namespace Go.Proofs.Ytcilfoicoambhaa
open Go Go.Hw Go.RowKit

variable {w0 : World} {R : List Asn}

/-- A turn: where; of the first list; on. -/
abbrev Turn := Nat × Bool × Bool
def tc (t : Turn) : List Value := [.int .u64 (t.1 : Nat), .bool t.2.1, .bool t.2.2]
theorem tc_len (t : Turn) : (tc t).length = 3 := rfl
theorem tc_one (t : Turn) : ∀ u ∈ tc t, u.oneCell' = true := by
  intro u hu
  simp [tc] at hu
  rcases hu with rfl | rfl | rfl <;> rfl
abbrev tkey (t : Turn) : Nat := t.1
def cmpT (s t : Turn) : Int := if s.1 < t.1 then -1 else if t.1 < s.1 then 1 else 0
theorem cmpT_lt (s t : Turn) : decide (cmpT s t < 0) = decide (s.1 < t.1) := by
  unfold cmpT
  by_cases h : s.1 < t.1
  · simp [h]
  · rw [if_neg h]
    split <;> simp [h]

theorem cmp_calls {s t : Turn} : CH Try.prog w0 110 #[.agg (tc s).toArray, .agg (tc t).toArray] R fun v R' => v = .int .i64 (cmpT s t) ∧ R' = R := by
  obtain ⟨a, a1, a2⟩ := s
  obtain ⟨b, b1, b2⟩ := t
  unfold tc cmpT
  refine CH_of Try.func110 rfl fun K kn kr kp => ?_
  simp only [Try.ntmps110, List.size_toArray, List.length_cons, List.length_nil, Nat.reduceAdd, Nat.reduceSub, Array.replicate_succ, Array.replicate_zero, List.push_toArray, List.append_toArray, List.nil_append, List.cons_append]
  refine HC_seq fun N1 hN1 => ?_
  refine HC_region ?_
  refine' HL_s rfl rfl (SO_box (Ev.tmp rfl) rfl) ?_
  rintro _ _ ⟨g2, rfl, rfl⟩
  simp only [zS0, zS1, zTn, Nat.reduceAdd, Nat.reduceMul, Int.reduceToNat, zG0, zG1, zG2, zCa, zCi, zCb, zCs, zCf, zCn, zCt, zCm, zCp]
  refine' HL_s rfl rfl (SO_box (Ev.tmp rfl) rfl) ?_
  rintro _ _ ⟨g3, rfl, rfl⟩
  simp only [zS0, zS1, zTn, Nat.reduceAdd, Nat.reduceMul, Int.reduceToNat, zG0, zG1, zG2, zCa, zCi, zCb, zCs, zCf, zCn, zCt, zCm, zCp]
  refine' HL_q rfl rfl (QV_assign Ev.const) ?_
  simp only [zS0, zS1, zTn, Nat.reduceAdd, Nat.reduceMul, Int.reduceToNat, zG0, zG1, zG2, zCa, zCi, zCb, zCs, zCf, zCn, zCt, zCm, zCp]
  refine HL_nil ?_
  refine hN1 _ _ ?_
  try clear hN1 N1
  refine HC_seq fun N2 hN2 => ?_
  refine HC_block ?_
  refine HC_seq fun N3 hN3 => ?_
  refine HC_region ?_
  refine' HL_q rfl rfl (QV_field (Ev.tmp rfl) (fld172_0 _ _)) ?_
  simp only [zS0, zS1, zTn, Nat.reduceAdd, Nat.reduceMul, Int.reduceToNat, zG0, zG1, zG2, zCa, zCi, zCb, zCs, zCf, zCn, zCt, zCm, zCp]
  first
    | (refine' HL_q rfl rfl (QV_load1 (Ev.tmp rfl) Try.isAgg30 ?hm ?hv) ?_; (case hm => (repeat (first | exact List.Mem.head _ | assumption | apply List.Mem.tail))); (case hv => (first | rfl | assumption)))
    | (refine' HL_q rfl rfl (QV_loadR (Ev.tmp rfl) ?hp Try.isAgg30 ?hs ?hv) ?_; (case hs => (first | assumption | (refine' Sl.sub (by assumption) ?_; (repeat (first | with_reducible exact List.Sublist.refl _ | with_reducible exact List.nil_sublist _ | with_reducible apply List.Sublist.cons_cons | with_reducible apply List.Sublist.cons))))); (case hv => (first  | rfl | assumption)); (case hp => (first | rfl | omega)))
  simp only [zS0, zS1, zTn, Nat.reduceAdd, Nat.reduceMul, Int.reduceToNat, zG0, zG1, zG2, zCa, zCi, zCb, zCs, zCf, zCn, zCt, zCm, zCp]
  refine' HL_q rfl rfl (QV_field (Ev.tmp rfl) (fld172_0 _ _)) ?_
  simp only [zS0, zS1, zTn, Nat.reduceAdd, Nat.reduceMul, Int.reduceToNat, zG0, zG1, zG2, zCa, zCi, zCb, zCs, zCf, zCn, zCt, zCm, zCp]
  first
    | (refine' HL_q rfl rfl (QV_load1 (Ev.tmp rfl) Try.isAgg30 ?hm ?hv) ?_; (case hm => (repeat (first | exact List.Mem.head _ | assumption | apply List.Mem.tail))); (case hv => (first | rfl | assumption)))
    | (refine' HL_q rfl rfl (QV_loadR (Ev.tmp rfl) ?hp Try.isAgg30 ?hs ?hv) ?_; (case hs => (first | assumption | (refine' Sl.sub (by assumption) ?_; (repeat (first | with_reducible exact List.Sublist.refl _ | with_reducible exact List.nil_sublist _ | with_reducible apply List.Sublist.cons_cons | with_reducible apply List.Sublist.cons))))); (case hv => (first  | rfl | assumption)); (case hp => (first | rfl | omega)))
  simp only [zS0, zS1, zTn, Nat.reduceAdd, Nat.reduceMul, Int.reduceToNat, zG0, zG1, zG2, zCa, zCi, zCb, zCs, zCf, zCn, zCt, zCm, zCp]
  first
    | (refine' HL_q rfl rfl (QV_lss_y (Ev.tmp rfl) (Ev.tmp rfl) ?hb) ?_; case hb => omega)
    | (refine' HL_q rfl rfl (QV_lss_n (Ev.tmp rfl) (Ev.tmp rfl) ?hb) ?_; case hb => omega)
    | (refine' HL_q rfl rfl (QV_lss (Ev.tmp rfl) (Ev.tmp rfl)) ?_)
  simp only [zS0, zS1, zTn, Nat.reduceAdd, Nat.reduceMul, Int.reduceToNat, zG0, zG1, zG2, zCa, zCi, zCb, zCs, zCf, zCn, zCt, zCm, zCp]
  refine' HL_q rfl rfl (QV_assign (Ev.tmp rfl)) ?_
  simp only [zS0, zS1, zTn, Nat.reduceAdd, Nat.reduceMul, Int.reduceToNat, zG0, zG1, zG2, zCa, zCi, zCb, zCs, zCf, zCn, zCt, zCm, zCp]
  refine HL_nil ?_
  refine hN3 _ _ ?_
  try clear hN3 N3
  refine HC_cond rfl (fun h => ?_) (fun h => ?_)
  · skip
    refine HC_seq fun N4 hN4 => ?_
    refine HC_region ?_
    refine' HL_q rfl rfl (QV_assign Ev.const) ?_
    simp only [zS0, zS1, zTn, Nat.reduceAdd, Nat.reduceMul, Int.reduceToNat, zG0, zG1, zG2, zCa, zCi, zCb, zCs, zCf, zCn, zCt, zCm, zCp]
    refine HL_nil ?_
    refine hN4 _ _ ?_
    try clear hN4 N4
    have h' : a < b := by simpa using h
    refine HC_ret ?_
    try simp only [thenK, blockK]
    refine kr _ _ ?_
    refine' Lv_tmp rfl rfl ?post ?le
    case post => exact ⟨by simp [h'], rfl⟩
    case le => (first | with_reducible exact Le.refl | (refine Le.of ?_; (repeat (first | with_reducible exact Sp.refl | with_reducible exact Sp.nil | (apply Sp.pick; focus ((repeat (first | with_reducible exact Rm.head | with_reducible apply Rm.tail)); done)) | with_reducible refine Sp.drop ?_))))
  · have h' : ¬ a < b := by simpa using h
    refine HC_seq fun N5 hN5 => ?_
    refine HC_region ?_
    refine' HL_q rfl rfl (QV_field (Ev.tmp rfl) (fld172_0 _ _)) ?_
    simp only [zS0, zS1, zTn, Nat.reduceAdd, Nat.reduceMul, Int.reduceToNat, zG0, zG1, zG2, zCa, zCi, zCb, zCs, zCf, zCn, zCt, zCm, zCp]
    first
      | (refine' HL_q rfl rfl (QV_load1 (Ev.tmp rfl) Try.isAgg30 ?hm ?hv) ?_; (case hm => (repeat (first | exact List.Mem.head _ | assumption | apply List.Mem.tail))); (case hv => (first | rfl | assumption)))
      | (refine' HL_q rfl rfl (QV_loadR (Ev.tmp rfl) ?hp Try.isAgg30 ?hs ?hv) ?_; (case hs => (first | assumption | (refine' Sl.sub (by assumption) ?_; (repeat (first | with_reducible exact List.Sublist.refl _ | with_reducible exact List.nil_sublist _ | with_reducible apply List.Sublist.cons_cons | with_reducible apply List.Sublist.cons))))); (case hv => (first  | rfl | assumption)); (case hp => (first | rfl | omega)))
    simp only [zS0, zS1, zTn, Nat.reduceAdd, Nat.reduceMul, Int.reduceToNat, zG0, zG1, zG2, zCa, zCi, zCb, zCs, zCf, zCn, zCt, zCm, zCp]
    refine' HL_q rfl rfl (QV_field (Ev.tmp rfl) (fld172_0 _ _)) ?_
    simp only [zS0, zS1, zTn, Nat.reduceAdd, Nat.reduceMul, Int.reduceToNat, zG0, zG1, zG2, zCa, zCi, zCb, zCs, zCf, zCn, zCt, zCm, zCp]
    first
      | (refine' HL_q rfl rfl (QV_load1 (Ev.tmp rfl) Try.isAgg30 ?hm ?hv) ?_; (case hm => (repeat (first | exact List.Mem.head _ | assumption | apply List.Mem.tail))); (case hv => (first | rfl | assumption)))
      | (refine' HL_q rfl rfl (QV_loadR (Ev.tmp rfl) ?hp Try.isAgg30 ?hs ?hv) ?_; (case hs => (first | assumption | (refine' Sl.sub (by assumption) ?_; (repeat (first | with_reducible exact List.Sublist.refl _ | with_reducible exact List.nil_sublist _ | with_reducible apply List.Sublist.cons_cons | with_reducible apply List.Sublist.cons))))); (case hv => (first  | rfl | assumption)); (case hp => (first | rfl | omega)))
    simp only [zS0, zS1, zTn, Nat.reduceAdd, Nat.reduceMul, Int.reduceToNat, zG0, zG1, zG2, zCa, zCi, zCb, zCs, zCf, zCn, zCt, zCm, zCp]
    first
      | (refine' HL_q rfl rfl (QV_gtr_y (Ev.tmp rfl) (Ev.tmp rfl) ?hb) ?_; case hb => omega)
      | (refine' HL_q rfl rfl (QV_gtr_n (Ev.tmp rfl) (Ev.tmp rfl) ?hb) ?_; case hb => omega)
      | (refine' HL_q rfl rfl (QV_gtr (Ev.tmp rfl) (Ev.tmp rfl)) ?_)
    simp only [zS0, zS1, zTn, Nat.reduceAdd, Nat.reduceMul, Int.reduceToNat, zG0, zG1, zG2, zCa, zCi, zCb, zCs, zCf, zCn, zCt, zCm, zCp]
    refine' HL_q rfl rfl (QV_assign (Ev.tmp rfl)) ?_
    simp only [zS0, zS1, zTn, Nat.reduceAdd, Nat.reduceMul, Int.reduceToNat, zG0, zG1, zG2, zCa, zCi, zCb, zCs, zCf, zCn, zCt, zCm, zCp]
    refine HL_nil ?_
    refine hN5 _ _ ?_
    try clear hN5 N5
    refine HC_cond rfl (fun h2 => ?_) (fun h2 => ?_)
    · skip
      refine HC_seq fun N6 hN6 => ?_
      refine HC_region ?_
      refine' HL_q rfl rfl (QV_assign Ev.const) ?_
      simp only [zS0, zS1, zTn, Nat.reduceAdd, Nat.reduceMul, Int.reduceToNat, zG0, zG1, zG2, zCa, zCi, zCb, zCs, zCf, zCn, zCt, zCm, zCp]
      refine HL_nil ?_
      refine hN6 _ _ ?_
      try clear hN6 N6
      have h2' : b < a := by simpa using h2
      refine HC_ret ?_
      try simp only [thenK, blockK]
      refine kr _ _ ?_
      refine' Lv_tmp rfl rfl ?post ?le
      case post => exact ⟨by simp [h', h2'], rfl⟩
      case le => (first | with_reducible exact Le.refl | (refine Le.of ?_; (repeat (first | with_reducible exact Sp.refl | with_reducible exact Sp.nil | (apply Sp.pick; focus ((repeat (first | with_reducible exact Rm.head | with_reducible apply Rm.tail)); done)) | with_reducible refine Sp.drop ?_))))
    · refine HC_skip ?_
      have h2' : ¬ b < a := by simpa using h2
      refine hN2 _ _ ?_
      try clear hN2 N2
      refine HC_seq fun N7 hN7 => ?_
      refine HC_region ?_
      refine' HL_q rfl rfl (QV_assign Ev.const) ?_
      simp only [zS0, zS1, zTn, Nat.reduceAdd, Nat.reduceMul, Int.reduceToNat, zG0, zG1, zG2, zCa, zCi, zCb, zCs, zCf, zCn, zCt, zCm, zCp]
      refine HL_nil ?_
      refine hN7 _ _ ?_
      try clear hN7 N7
      refine HC_ret ?_
      try simp only [thenK, blockK]
      refine kr _ _ ?_
      refine' Lv_tmp rfl rfl ?post ?le
      case post => exact ⟨by simp [h', h2'], rfl⟩
      case le => (first | with_reducible exact Le.refl | (refine Le.of ?_; (repeat (first | with_reducible exact Sp.refl | with_reducible exact Sp.nil | (apply Sp.pick; focus ((repeat (first | with_reducible exact Rm.head | with_reducible apply Rm.tail)); done)) | with_reducible refine Sp.drop ?_))))
end Go.Proofs.Ytcilfoicoambhaa
