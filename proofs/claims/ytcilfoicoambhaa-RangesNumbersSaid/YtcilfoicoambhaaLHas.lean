import Derived.Test.YtcilfoicoambhaaRg9
set_option linter.unusedVariables false
set_option linter.unusedSimpArgs false
set_option maxRecDepth 20000
set_option maxHeartbeats 4000000
namespace Go.Proofs.Ytcilfoicoambhaa
open Go Go.Hw Go.RowKit

variable {w0 : World} {R : List Asn}

theorem memR_one (n x y : Nat) : memR n [(x, y)] = (decide (x ≤ n) && decide (n ≤ y)) := by simp [memR]
theorem canon_long {l : List Rg} (h : SetOk l) : l.length ≤ 9223372036854775807 := by have := h.2; omega

theorem rangesHas {A : Option Addr} {c x y n : Nat} {l : List Rg} (hs : Sl w0 [] 2 A l.length (rgC l)) (hw : Wide l) (hl : l.length ≤ 9223372036854775807) (hx : x < 18446744073709551616) (hy : y < 18446744073709551616) (hn : n < 18446744073709551616) :
    CH Try.prog w0 11 #[.slice A l.length c, .agg #[.int .u64 (x : Nat), .int .u64 (y : Nat)], .int .u64 (n : Nat)] [] fun v R' => v = .bool true ∧ R' = [] := by
  have hs' : ∀ R, Sl w0 R 2 A l.length (rgC l) := fun R => hs.sub (List.nil_sublist _)
  obtain ⟨R0, hR0⟩ : ∃ R0 : List Asn, R0 = [] := ⟨_, rfl⟩
  rw [← hR0]
  clear hR0 hs
  refine CH_of Try.func11 rfl fun K kn kr kp => ?_
  simp only [Try.ntmps11, List.size_toArray, List.length_cons, List.length_nil, Nat.reduceAdd, Nat.reduceSub, Array.replicate_succ, Array.replicate_zero, List.push_toArray, List.append_toArray, List.nil_append, List.cons_append]
  refine HC_seq fun N1 hN1 => ?_
  refine HC_region ?_
  refine' HL_s rfl rfl (SO_box (Ev.tmp rfl) rfl) ?_
  rintro _ _ ⟨g4, rfl, rfl⟩
  simp only [zS0, zS1, zTn, Nat.reduceAdd, Nat.reduceMul, Int.reduceToNat, zG0, zG1, zG2, zCa, zCi, zCb, zCs, zCf, zCn, zCt, zCm, zCp]
  refine' HL_q rfl rfl (QV_assign Ev.const) ?_
  simp only [zS0, zS1, zTn, Nat.reduceAdd, Nat.reduceMul, Int.reduceToNat, zG0, zG1, zG2, zCa, zCi, zCb, zCs, zCf, zCn, zCt, zCm, zCp]
  refine HL_nil ?_
  refine hN1 _ _ ?_
  try clear hN1 N1
  rcases Nat.lt_or_ge 100 l.length with h100 | h100
  · skip
    refine HC_seq fun N2 hN2 => ?_
    refine HC_seq fun N3 hN3 => ?_
    refine HC_region ?_
    -- operation 0
    refine' HL_call rfl en37 (call_fn EvL.nil.evs) (alive8) ?_
    rintro _ _ ⟨rfl, rfl⟩
    simp only [zS0, zS1, zTn, Nat.reduceAdd, Nat.reduceMul, Int.reduceToNat, zG0, zG1, zG2, zCa, zCi, zCb, zCs, zCf, zCn, zCt, zCm, zCp]
    refine' HL_q rfl rfl (QV_un (Ev.tmp rfl) ?hr) ?_
    case hr => intro w; first | (go_simp; done) | (go_simp; rfl)
    simp only [zS0, zS1, zTn, Nat.reduceAdd, Nat.reduceMul, Int.reduceToNat, zG0, zG1, zG2, zCa, zCi, zCb, zCs, zCf, zCn, zCt, zCm, zCp]
    refine' HL_q rfl rfl (QV_move (Ev.tmp rfl)) ?_
    simp only [zS0, zS1, zTn, Nat.reduceAdd, Nat.reduceMul, Int.reduceToNat, zG0, zG1, zG2, zCa, zCi, zCb, zCs, zCf, zCn, zCt, zCm, zCp]
    first
      | (refine HL_skip rfl ?_; simp only [zS0, zS1, zTn, Nat.reduceAdd, Nat.reduceMul, Int.reduceToNat, zG0, zG1, zG2, zCa, zCi, zCb, zCs, zCf, zCn, zCt, zCm, zCp])
      |
        refine' HL_q rfl rfl (QV_move (Ev.tmp rfl)) ?_
        simp only [zS0, zS1, zTn, Nat.reduceAdd, Nat.reduceMul, Int.reduceToNat, zG0, zG1, zG2, zCa, zCi, zCb, zCs, zCf, zCn, zCt, zCm, zCp]
    first
      | (refine HL_skip rfl ?_; simp only [zS0, zS1, zTn, Nat.reduceAdd, Nat.reduceMul, Int.reduceToNat, zG0, zG1, zG2, zCa, zCi, zCb, zCs, zCf, zCn, zCt, zCm, zCp])
      |
        refine' HL_q rfl rfl (QV_len (Ev.tmp rfl) Try.underlying34) ?_
        simp only [zS0, zS1, zTn, Nat.reduceAdd, Nat.reduceMul, Int.reduceToNat, zG0, zG1, zG2, zCa, zCi, zCb, zCs, zCf, zCn, zCt, zCm, zCp]
    first
      | (refine HL_skip rfl ?_; simp only [zS0, zS1, zTn, Nat.reduceAdd, Nat.reduceMul, Int.reduceToNat, zG0, zG1, zG2, zCa, zCi, zCb, zCs, zCf, zCn, zCt, zCm, zCp])
      |
        first
          | (refine' HL_q rfl rfl (QV_gtr_y (Ev.tmp rfl) Ev.const ?hb) ?_; case hb => omega)
          | (refine' HL_q rfl rfl (QV_gtr_n (Ev.tmp rfl) Ev.const ?hb) ?_; case hb => omega)
          | (refine' HL_q rfl rfl (QV_gtr (Ev.tmp rfl) Ev.const) ?_)
        simp only [zS0, zS1, zTn, Nat.reduceAdd, Nat.reduceMul, Int.reduceToNat, zG0, zG1, zG2, zCa, zCi, zCb, zCs, zCf, zCn, zCt, zCm, zCp]
    refine' HL_q rfl rfl (QV_pick (Ev.tmp rfl) Ev.const (Ev.tmp rfl)) ?_
    simp only [if_true, if_false, Bool.false_eq_true, reduceIte, zS0, zS1, zTn, Nat.reduceAdd, Nat.reduceMul, Int.reduceToNat, zG0, zG1, zG2, zCa, zCi, zCb, zCs, zCf, zCn, zCt, zCm, zCp]
    refine HL_nil ?_
    refine hN3 _ _ ?_
    try clear hN3 N3
    refine HC_true rfl ?_
    refine HC_seq fun N4 hN4 => ?_
    refine HC_region ?_
    -- operation 0
    refine' HL_call rfl en37 (call_fn EvL.nil.evs) (alive8) ?_
    rintro _ _ ⟨rfl, rfl⟩
    simp only [zS0, zS1, zTn, Nat.reduceAdd, Nat.reduceMul, Int.reduceToNat, zG0, zG1, zG2, zCa, zCi, zCb, zCs, zCf, zCn, zCt, zCm, zCp]
    refine' HL_q rfl rfl (QV_move (Ev.tmp rfl)) ?_
    simp only [zS0, zS1, zTn, Nat.reduceAdd, Nat.reduceMul, Int.reduceToNat, zG0, zG1, zG2, zCa, zCi, zCb, zCs, zCf, zCn, zCt, zCm, zCp]
    first
      | (refine HL_skip rfl ?_; simp only [zS0, zS1, zTn, Nat.reduceAdd, Nat.reduceMul, Int.reduceToNat, zG0, zG1, zG2, zCa, zCi, zCb, zCs, zCf, zCn, zCt, zCm, zCp])
      |
        refine' HL_q rfl rfl (QV_move (Ev.tmp rfl)) ?_
        simp only [zS0, zS1, zTn, Nat.reduceAdd, Nat.reduceMul, Int.reduceToNat, zG0, zG1, zG2, zCa, zCi, zCb, zCs, zCf, zCn, zCt, zCm, zCp]
    -- operation 3
    refine' HL_call rfl en45 (call_fn (EvL.cons (Ev.tmp rfl) EvL.nil).evs) ((check_calls (hs' _) hw hl)) ?_
    rintro _ _ ⟨b, rfl, hb, rfl⟩
    obtain rfl : b = false := (by cases b <;> first | rfl | exact absurd (hb.1 rfl).2 (by omega))
    simp only [zS0, zS1, zTn, Nat.reduceAdd, Nat.reduceMul, Int.reduceToNat, zG0, zG1, zG2, zCa, zCi, zCb, zCs, zCf, zCn, zCt, zCm, zCp]
    first
      | (refine HL_skip rfl ?_; simp only [zS0, zS1, zTn, Nat.reduceAdd, Nat.reduceMul, Int.reduceToNat, zG0, zG1, zG2, zCa, zCi, zCb, zCs, zCf, zCn, zCt, zCm, zCp])
      |
        refine' HL_q rfl rfl (QV_un (Ev.tmp rfl) ?hr) ?_
        case hr => intro w; first | (go_simp; done) | (go_simp; rfl)
        simp only [zS0, zS1, zTn, Nat.reduceAdd, Nat.reduceMul, Int.reduceToNat, zG0, zG1, zG2, zCa, zCi, zCb, zCs, zCf, zCn, zCt, zCm, zCp]
    refine' HL_q rfl rfl (QV_pick (Ev.tmp rfl) (Ev.tmp rfl) Ev.const) ?_
    simp only [if_true, if_false, Bool.false_eq_true, reduceIte, zS0, zS1, zTn, Nat.reduceAdd, Nat.reduceMul, Int.reduceToNat, zG0, zG1, zG2, zCa, zCi, zCb, zCs, zCf, zCn, zCt, zCm, zCp]
    refine' HL_q rfl rfl (QV_assign (Ev.tmp rfl)) ?_
    simp only [zS0, zS1, zTn, Nat.reduceAdd, Nat.reduceMul, Int.reduceToNat, zG0, zG1, zG2, zCa, zCi, zCb, zCs, zCf, zCn, zCt, zCm, zCp]
    refine HL_nil ?_
    refine hN4 _ _ ?_
    try clear hN4 N4
    refine HC_ret ?_
    try simp only [thenK, blockK]
    refine kr _ _ ?_
    refine' Lv_tmp rfl rfl ?post ?le
    case post => exact ⟨rfl, rfl⟩
    case le => (first | with_reducible exact Le.refl | (refine Le.of ?_; (repeat (first | with_reducible exact Sp.refl | with_reducible exact Sp.nil | (apply Sp.pick; focus ((repeat (first | with_reducible exact Rm.head | with_reducible apply Rm.tail)); done)) | with_reducible refine Sp.drop ?_))))
  · skip
    refine HC_seq fun N2 hN2 => ?_
    refine HC_seq fun N3 hN3 => ?_
    refine HC_region ?_
    -- operation 0
    refine' HL_call rfl en37 (call_fn EvL.nil.evs) (alive8) ?_
    rintro _ _ ⟨rfl, rfl⟩
    simp only [zS0, zS1, zTn, Nat.reduceAdd, Nat.reduceMul, Int.reduceToNat, zG0, zG1, zG2, zCa, zCi, zCb, zCs, zCf, zCn, zCt, zCm, zCp]
    refine' HL_q rfl rfl (QV_un (Ev.tmp rfl) ?hr) ?_
    case hr => intro w; first | (go_simp; done) | (go_simp; rfl)
    simp only [zS0, zS1, zTn, Nat.reduceAdd, Nat.reduceMul, Int.reduceToNat, zG0, zG1, zG2, zCa, zCi, zCb, zCs, zCf, zCn, zCt, zCm, zCp]
    refine' HL_q rfl rfl (QV_move (Ev.tmp rfl)) ?_
    simp only [zS0, zS1, zTn, Nat.reduceAdd, Nat.reduceMul, Int.reduceToNat, zG0, zG1, zG2, zCa, zCi, zCb, zCs, zCf, zCn, zCt, zCm, zCp]
    first
      | (refine HL_skip rfl ?_; simp only [zS0, zS1, zTn, Nat.reduceAdd, Nat.reduceMul, Int.reduceToNat, zG0, zG1, zG2, zCa, zCi, zCb, zCs, zCf, zCn, zCt, zCm, zCp])
      |
        refine' HL_q rfl rfl (QV_move (Ev.tmp rfl)) ?_
        simp only [zS0, zS1, zTn, Nat.reduceAdd, Nat.reduceMul, Int.reduceToNat, zG0, zG1, zG2, zCa, zCi, zCb, zCs, zCf, zCn, zCt, zCm, zCp]
    first
      | (refine HL_skip rfl ?_; simp only [zS0, zS1, zTn, Nat.reduceAdd, Nat.reduceMul, Int.reduceToNat, zG0, zG1, zG2, zCa, zCi, zCb, zCs, zCf, zCn, zCt, zCm, zCp])
      |
        refine' HL_q rfl rfl (QV_len (Ev.tmp rfl) Try.underlying34) ?_
        simp only [zS0, zS1, zTn, Nat.reduceAdd, Nat.reduceMul, Int.reduceToNat, zG0, zG1, zG2, zCa, zCi, zCb, zCs, zCf, zCn, zCt, zCm, zCp]
    first
      | (refine HL_skip rfl ?_; simp only [zS0, zS1, zTn, Nat.reduceAdd, Nat.reduceMul, Int.reduceToNat, zG0, zG1, zG2, zCa, zCi, zCb, zCs, zCf, zCn, zCt, zCm, zCp])
      |
        first
          | (refine' HL_q rfl rfl (QV_gtr_y (Ev.tmp rfl) Ev.const ?hb) ?_; case hb => omega)
          | (refine' HL_q rfl rfl (QV_gtr_n (Ev.tmp rfl) Ev.const ?hb) ?_; case hb => omega)
          | (refine' HL_q rfl rfl (QV_gtr (Ev.tmp rfl) Ev.const) ?_)
        simp only [zS0, zS1, zTn, Nat.reduceAdd, Nat.reduceMul, Int.reduceToNat, zG0, zG1, zG2, zCa, zCi, zCb, zCs, zCf, zCn, zCt, zCm, zCp]
    refine' HL_q rfl rfl (QV_pick (Ev.tmp rfl) Ev.const (Ev.tmp rfl)) ?_
    simp only [if_true, if_false, Bool.false_eq_true, reduceIte, zS0, zS1, zTn, Nat.reduceAdd, Nat.reduceMul, Int.reduceToNat, zG0, zG1, zG2, zCa, zCi, zCb, zCs, zCf, zCn, zCt, zCm, zCp]
    refine HL_nil ?_
    refine hN3 _ _ ?_
    try clear hN3 N3
    refine HC_false rfl ?_
    refine HC_skip ?_
    refine hN2 _ _ ?_
    try clear hN2 N2
    obtain ⟨inb, hinb⟩ : ∃ inb, memR n [(x, y)] = inb := ⟨_, rfl⟩
    have hinb' := hinb
    rw [memR_one] at hinb'
    refine HC_mid [7] [false, false, false, false, false, false, false, false, false, false, false, false, false, false, false, false, false, false, false, false, false, false, false, false, false, false, true, true, true, true, true, true, true, true, true, true] (fun vs RR => vs = [(.bool inb)] ∧ RR = pt g4 (.cells #[.int .u64 (x : Nat), .int .u64 (y : Nat)] 67 (0, 0)) :: R0) (fun NM5 hM5 => ?first) ?rest
    case first =>
      rcases Nat.lt_or_ge n x with h1 | h1
      · have e : inb = false := by rw [← hinb']; simp; omega
        subst e
        refine HC_region ?_
        refine' HL_q rfl rfl (QV_move (Ev.tmp rfl)) ?_
        simp only [zS0, zS1, zTn, Nat.reduceAdd, Nat.reduceMul, Int.reduceToNat, zG0, zG1, zG2, zCa, zCi, zCb, zCs, zCf, zCn, zCt, zCm, zCp]
        refine' HL_q rfl rfl (QV_field (Ev.tmp rfl) (fld67_0 _ _)) ?_
        simp only [zS0, zS1, zTn, Nat.reduceAdd, Nat.reduceMul, Int.reduceToNat, zG0, zG1, zG2, zCa, zCi, zCb, zCs, zCf, zCn, zCt, zCm, zCp]
        first
          | (refine' HL_q rfl rfl (QV_load1 (Ev.tmp rfl) Try.isAgg30 ?hm ?hv) ?_; (case hm => (repeat (first | exact List.Mem.head _ | assumption | apply List.Mem.tail))); (case hv => (first | rfl | assumption)))
          | (refine' HL_q rfl rfl (QV_loadR (Ev.tmp rfl) ?hp Try.isAgg30 ?hs ?hv) ?_; (case hs => (first | assumption | (refine' Sl.sub (by assumption) ?_; (repeat (first | with_reducible exact List.Sublist.refl _ | with_reducible exact List.nil_sublist _ | with_reducible apply List.Sublist.cons_cons | with_reducible apply List.Sublist.cons))))); (case hv => (first  | rfl | assumption)); (case hp => (first | rfl | omega)))
        simp only [zS0, zS1, zTn, Nat.reduceAdd, Nat.reduceMul, Int.reduceToNat, zG0, zG1, zG2, zCa, zCi, zCb, zCs, zCf, zCn, zCt, zCm, zCp]
        first
          | (refine' HL_q rfl rfl (QV_geq_y (Ev.tmp rfl) (Ev.tmp rfl) ?hb) ?_; case hb => omega)
          | (refine' HL_q rfl rfl (QV_geq_n (Ev.tmp rfl) (Ev.tmp rfl) ?hb) ?_; case hb => omega)
          | (refine' HL_q rfl rfl (QV_geq (Ev.tmp rfl) (Ev.tmp rfl)) ?_)
        simp only [zS0, zS1, zTn, Nat.reduceAdd, Nat.reduceMul, Int.reduceToNat, zG0, zG1, zG2, zCa, zCi, zCb, zCs, zCf, zCn, zCt, zCm, zCp]
        refine' HL_q rfl rfl (QV_move (Ev.tmp rfl)) ?_
        simp only [zS0, zS1, zTn, Nat.reduceAdd, Nat.reduceMul, Int.reduceToNat, zG0, zG1, zG2, zCa, zCi, zCb, zCs, zCf, zCn, zCt, zCm, zCp]
        first
          | (refine HL_skip rfl ?_; simp only [zS0, zS1, zTn, Nat.reduceAdd, Nat.reduceMul, Int.reduceToNat, zG0, zG1, zG2, zCa, zCi, zCb, zCs, zCf, zCn, zCt, zCm, zCp])
          |
            refine' HL_q rfl rfl (QV_move (Ev.tmp rfl)) ?_
            simp only [zS0, zS1, zTn, Nat.reduceAdd, Nat.reduceMul, Int.reduceToNat, zG0, zG1, zG2, zCa, zCi, zCb, zCs, zCf, zCn, zCt, zCm, zCp]
        first
          | (refine HL_skip rfl ?_; simp only [zS0, zS1, zTn, Nat.reduceAdd, Nat.reduceMul, Int.reduceToNat, zG0, zG1, zG2, zCa, zCi, zCb, zCs, zCf, zCn, zCt, zCm, zCp])
          |
            refine' HL_q rfl rfl (QV_field (Ev.tmp rfl) (fld67_1 _ _)) ?_
            simp only [zS0, zS1, zTn, Nat.reduceAdd, Nat.reduceMul, Int.reduceToNat, zG0, zG1, zG2, zCa, zCi, zCb, zCs, zCf, zCn, zCt, zCm, zCp]
        first
          | (refine HL_skip rfl ?_; simp only [zS0, zS1, zTn, Nat.reduceAdd, Nat.reduceMul, Int.reduceToNat, zG0, zG1, zG2, zCa, zCi, zCb, zCs, zCf, zCn, zCt, zCm, zCp])
          |
            first
              | (refine' HL_q rfl rfl (QV_load1 (Ev.tmp rfl) Try.isAgg30 ?hm ?hv) ?_; (case hm => (repeat (first | exact List.Mem.head _ | assumption | apply List.Mem.tail))); (case hv => (first | rfl | assumption)))
              | (refine' HL_q rfl rfl (QV_loadR (Ev.tmp rfl) ?hp Try.isAgg30 ?hs ?hv) ?_; (case hs => (first | assumption | (refine' Sl.sub (by assumption) ?_; (repeat (first | with_reducible exact List.Sublist.refl _ | with_reducible exact List.nil_sublist _ | with_reducible apply List.Sublist.cons_cons | with_reducible apply List.Sublist.cons))))); (case hv => (first  | rfl | assumption)); (case hp => (first | rfl | omega)))
            simp only [zS0, zS1, zTn, Nat.reduceAdd, Nat.reduceMul, Int.reduceToNat, zG0, zG1, zG2, zCa, zCi, zCb, zCs, zCf, zCn, zCt, zCm, zCp]
        first
          | (refine HL_skip rfl ?_; simp only [zS0, zS1, zTn, Nat.reduceAdd, Nat.reduceMul, Int.reduceToNat, zG0, zG1, zG2, zCa, zCi, zCb, zCs, zCf, zCn, zCt, zCm, zCp])
          |
            first
              | (refine' HL_q rfl rfl (QV_leq_y (Ev.tmp rfl) (Ev.tmp rfl) ?hb) ?_; case hb => omega)
              | (refine' HL_q rfl rfl (QV_leq_n (Ev.tmp rfl) (Ev.tmp rfl) ?hb) ?_; case hb => omega)
              | (refine' HL_q rfl rfl (QV_leq (Ev.tmp rfl) (Ev.tmp rfl)) ?_)
            simp only [zS0, zS1, zTn, Nat.reduceAdd, Nat.reduceMul, Int.reduceToNat, zG0, zG1, zG2, zCa, zCi, zCb, zCs, zCf, zCn, zCt, zCm, zCp]
        refine' HL_q rfl rfl (QV_pick (Ev.tmp rfl) (Ev.tmp rfl) Ev.const) ?_
        simp only [if_true, if_false, Bool.false_eq_true, reduceIte, zS0, zS1, zTn, Nat.reduceAdd, Nat.reduceMul, Int.reduceToNat, zG0, zG1, zG2, zCa, zCi, zCb, zCs, zCf, zCn, zCt, zCm, zCp]
        refine' HL_q rfl rfl (QV_assign (Ev.tmp rfl)) ?_
        simp only [zS0, zS1, zTn, Nat.reduceAdd, Nat.reduceMul, Int.reduceToNat, zG0, zG1, zG2, zCa, zCi, zCb, zCs, zCf, zCn, zCt, zCm, zCp]
        refine HL_nil ?_
        simp only [thenK]
        try simp only [thenK]
        refine' meetM hM5 (Gets.cons rfl Gets.nil) ?ag1 ?le ⟨rfl, rfl⟩
        case ag1 => (simp only [setL, List.set_cons_zero, List.set_cons_succ]; exact (Ag.keep (Ag.keep (Ag.keep (Ag.keep (Ag.keep (Ag.keep (Ag.keep (Ag.keep (Ag.keep (Ag.keep (Ag.keep (Ag.keep (Ag.keep (Ag.keep (Ag.keep (Ag.keep (Ag.keep (Ag.keep (Ag.keep (Ag.keep (Ag.keep (Ag.keep (Ag.keep (Ag.keep (Ag.keep (Ag.keep (Ag.any (Ag.any (Ag.any (Ag.any (Ag.any (Ag.any (Ag.any (Ag.any (Ag.any (Ag.any Ag.nil)))))))))))))))))))))))))))))))))))))
        case le => (first | with_reducible exact Le.refl | (refine Le.of ?_; (repeat (first | with_reducible exact Sp.refl | with_reducible exact Sp.nil | (apply Sp.pick; focus ((repeat (first | with_reducible exact Rm.head | with_reducible apply Rm.tail)); done)) | with_reducible refine Sp.drop ?_))))
      · rcases Nat.lt_or_ge y n with h2 | h2
        · have e : inb = false := by rw [← hinb']; simp; omega
          subst e
          refine HC_region ?_
          refine' HL_q rfl rfl (QV_move (Ev.tmp rfl)) ?_
          simp only [zS0, zS1, zTn, Nat.reduceAdd, Nat.reduceMul, Int.reduceToNat, zG0, zG1, zG2, zCa, zCi, zCb, zCs, zCf, zCn, zCt, zCm, zCp]
          refine' HL_q rfl rfl (QV_field (Ev.tmp rfl) (fld67_0 _ _)) ?_
          simp only [zS0, zS1, zTn, Nat.reduceAdd, Nat.reduceMul, Int.reduceToNat, zG0, zG1, zG2, zCa, zCi, zCb, zCs, zCf, zCn, zCt, zCm, zCp]
          first
            | (refine' HL_q rfl rfl (QV_load1 (Ev.tmp rfl) Try.isAgg30 ?hm ?hv) ?_; (case hm => (repeat (first | exact List.Mem.head _ | assumption | apply List.Mem.tail))); (case hv => (first | rfl | assumption)))
            | (refine' HL_q rfl rfl (QV_loadR (Ev.tmp rfl) ?hp Try.isAgg30 ?hs ?hv) ?_; (case hs => (first | assumption | (refine' Sl.sub (by assumption) ?_; (repeat (first | with_reducible exact List.Sublist.refl _ | with_reducible exact List.nil_sublist _ | with_reducible apply List.Sublist.cons_cons | with_reducible apply List.Sublist.cons))))); (case hv => (first  | rfl | assumption)); (case hp => (first | rfl | omega)))
          simp only [zS0, zS1, zTn, Nat.reduceAdd, Nat.reduceMul, Int.reduceToNat, zG0, zG1, zG2, zCa, zCi, zCb, zCs, zCf, zCn, zCt, zCm, zCp]
          first
            | (refine' HL_q rfl rfl (QV_geq_y (Ev.tmp rfl) (Ev.tmp rfl) ?hb) ?_; case hb => omega)
            | (refine' HL_q rfl rfl (QV_geq_n (Ev.tmp rfl) (Ev.tmp rfl) ?hb) ?_; case hb => omega)
            | (refine' HL_q rfl rfl (QV_geq (Ev.tmp rfl) (Ev.tmp rfl)) ?_)
          simp only [zS0, zS1, zTn, Nat.reduceAdd, Nat.reduceMul, Int.reduceToNat, zG0, zG1, zG2, zCa, zCi, zCb, zCs, zCf, zCn, zCt, zCm, zCp]
          refine' HL_q rfl rfl (QV_move (Ev.tmp rfl)) ?_
          simp only [zS0, zS1, zTn, Nat.reduceAdd, Nat.reduceMul, Int.reduceToNat, zG0, zG1, zG2, zCa, zCi, zCb, zCs, zCf, zCn, zCt, zCm, zCp]
          first
            | (refine HL_skip rfl ?_; simp only [zS0, zS1, zTn, Nat.reduceAdd, Nat.reduceMul, Int.reduceToNat, zG0, zG1, zG2, zCa, zCi, zCb, zCs, zCf, zCn, zCt, zCm, zCp])
            |
              refine' HL_q rfl rfl (QV_move (Ev.tmp rfl)) ?_
              simp only [zS0, zS1, zTn, Nat.reduceAdd, Nat.reduceMul, Int.reduceToNat, zG0, zG1, zG2, zCa, zCi, zCb, zCs, zCf, zCn, zCt, zCm, zCp]
          first
            | (refine HL_skip rfl ?_; simp only [zS0, zS1, zTn, Nat.reduceAdd, Nat.reduceMul, Int.reduceToNat, zG0, zG1, zG2, zCa, zCi, zCb, zCs, zCf, zCn, zCt, zCm, zCp])
            |
              refine' HL_q rfl rfl (QV_field (Ev.tmp rfl) (fld67_1 _ _)) ?_
              simp only [zS0, zS1, zTn, Nat.reduceAdd, Nat.reduceMul, Int.reduceToNat, zG0, zG1, zG2, zCa, zCi, zCb, zCs, zCf, zCn, zCt, zCm, zCp]
          first
            | (refine HL_skip rfl ?_; simp only [zS0, zS1, zTn, Nat.reduceAdd, Nat.reduceMul, Int.reduceToNat, zG0, zG1, zG2, zCa, zCi, zCb, zCs, zCf, zCn, zCt, zCm, zCp])
            |
              first
                | (refine' HL_q rfl rfl (QV_load1 (Ev.tmp rfl) Try.isAgg30 ?hm ?hv) ?_; (case hm => (repeat (first | exact List.Mem.head _ | assumption | apply List.Mem.tail))); (case hv => (first | rfl | assumption)))
                | (refine' HL_q rfl rfl (QV_loadR (Ev.tmp rfl) ?hp Try.isAgg30 ?hs ?hv) ?_; (case hs => (first | assumption | (refine' Sl.sub (by assumption) ?_; (repeat (first | with_reducible exact List.Sublist.refl _ | with_reducible exact List.nil_sublist _ | with_reducible apply List.Sublist.cons_cons | with_reducible apply List.Sublist.cons))))); (case hv => (first  | rfl | assumption)); (case hp => (first | rfl | omega)))
              simp only [zS0, zS1, zTn, Nat.reduceAdd, Nat.reduceMul, Int.reduceToNat, zG0, zG1, zG2, zCa, zCi, zCb, zCs, zCf, zCn, zCt, zCm, zCp]
          first
            | (refine HL_skip rfl ?_; simp only [zS0, zS1, zTn, Nat.reduceAdd, Nat.reduceMul, Int.reduceToNat, zG0, zG1, zG2, zCa, zCi, zCb, zCs, zCf, zCn, zCt, zCm, zCp])
            |
              first
                | (refine' HL_q rfl rfl (QV_leq_y (Ev.tmp rfl) (Ev.tmp rfl) ?hb) ?_; case hb => omega)
                | (refine' HL_q rfl rfl (QV_leq_n (Ev.tmp rfl) (Ev.tmp rfl) ?hb) ?_; case hb => omega)
                | (refine' HL_q rfl rfl (QV_leq (Ev.tmp rfl) (Ev.tmp rfl)) ?_)
              simp only [zS0, zS1, zTn, Nat.reduceAdd, Nat.reduceMul, Int.reduceToNat, zG0, zG1, zG2, zCa, zCi, zCb, zCs, zCf, zCn, zCt, zCm, zCp]
          refine' HL_q rfl rfl (QV_pick (Ev.tmp rfl) (Ev.tmp rfl) Ev.const) ?_
          simp only [if_true, if_false, Bool.false_eq_true, reduceIte, zS0, zS1, zTn, Nat.reduceAdd, Nat.reduceMul, Int.reduceToNat, zG0, zG1, zG2, zCa, zCi, zCb, zCs, zCf, zCn, zCt, zCm, zCp]
          refine' HL_q rfl rfl (QV_assign (Ev.tmp rfl)) ?_
          simp only [zS0, zS1, zTn, Nat.reduceAdd, Nat.reduceMul, Int.reduceToNat, zG0, zG1, zG2, zCa, zCi, zCb, zCs, zCf, zCn, zCt, zCm, zCp]
          refine HL_nil ?_
          simp only [thenK]
          try simp only [thenK]
          refine' meetM hM5 (Gets.cons rfl Gets.nil) ?ag2 ?le ⟨rfl, rfl⟩
          case ag2 => (simp only [setL, List.set_cons_zero, List.set_cons_succ]; exact (Ag.keep (Ag.keep (Ag.keep (Ag.keep (Ag.keep (Ag.keep (Ag.keep (Ag.keep (Ag.keep (Ag.keep (Ag.keep (Ag.keep (Ag.keep (Ag.keep (Ag.keep (Ag.keep (Ag.keep (Ag.keep (Ag.keep (Ag.keep (Ag.keep (Ag.keep (Ag.keep (Ag.keep (Ag.keep (Ag.keep (Ag.any (Ag.any (Ag.any (Ag.any (Ag.any (Ag.any (Ag.any (Ag.any (Ag.any (Ag.any Ag.nil)))))))))))))))))))))))))))))))))))))
          case le => (first | with_reducible exact Le.refl | (refine Le.of ?_; (repeat (first | with_reducible exact Sp.refl | with_reducible exact Sp.nil | (apply Sp.pick; focus ((repeat (first | with_reducible exact Rm.head | with_reducible apply Rm.tail)); done)) | with_reducible refine Sp.drop ?_))))
        · have e : inb = true := by rw [← hinb']; simp; omega
          subst e
          refine HC_region ?_
          refine' HL_q rfl rfl (QV_move (Ev.tmp rfl)) ?_
          simp only [zS0, zS1, zTn, Nat.reduceAdd, Nat.reduceMul, Int.reduceToNat, zG0, zG1, zG2, zCa, zCi, zCb, zCs, zCf, zCn, zCt, zCm, zCp]
          refine' HL_q rfl rfl (QV_field (Ev.tmp rfl) (fld67_0 _ _)) ?_
          simp only [zS0, zS1, zTn, Nat.reduceAdd, Nat.reduceMul, Int.reduceToNat, zG0, zG1, zG2, zCa, zCi, zCb, zCs, zCf, zCn, zCt, zCm, zCp]
          first
            | (refine' HL_q rfl rfl (QV_load1 (Ev.tmp rfl) Try.isAgg30 ?hm ?hv) ?_; (case hm => (repeat (first | exact List.Mem.head _ | assumption | apply List.Mem.tail))); (case hv => (first | rfl | assumption)))
            | (refine' HL_q rfl rfl (QV_loadR (Ev.tmp rfl) ?hp Try.isAgg30 ?hs ?hv) ?_; (case hs => (first | assumption | (refine' Sl.sub (by assumption) ?_; (repeat (first | with_reducible exact List.Sublist.refl _ | with_reducible exact List.nil_sublist _ | with_reducible apply List.Sublist.cons_cons | with_reducible apply List.Sublist.cons))))); (case hv => (first  | rfl | assumption)); (case hp => (first | rfl | omega)))
          simp only [zS0, zS1, zTn, Nat.reduceAdd, Nat.reduceMul, Int.reduceToNat, zG0, zG1, zG2, zCa, zCi, zCb, zCs, zCf, zCn, zCt, zCm, zCp]
          first
            | (refine' HL_q rfl rfl (QV_geq_y (Ev.tmp rfl) (Ev.tmp rfl) ?hb) ?_; case hb => omega)
            | (refine' HL_q rfl rfl (QV_geq_n (Ev.tmp rfl) (Ev.tmp rfl) ?hb) ?_; case hb => omega)
            | (refine' HL_q rfl rfl (QV_geq (Ev.tmp rfl) (Ev.tmp rfl)) ?_)
          simp only [zS0, zS1, zTn, Nat.reduceAdd, Nat.reduceMul, Int.reduceToNat, zG0, zG1, zG2, zCa, zCi, zCb, zCs, zCf, zCn, zCt, zCm, zCp]
          refine' HL_q rfl rfl (QV_move (Ev.tmp rfl)) ?_
          simp only [zS0, zS1, zTn, Nat.reduceAdd, Nat.reduceMul, Int.reduceToNat, zG0, zG1, zG2, zCa, zCi, zCb, zCs, zCf, zCn, zCt, zCm, zCp]
          first
            | (refine HL_skip rfl ?_; simp only [zS0, zS1, zTn, Nat.reduceAdd, Nat.reduceMul, Int.reduceToNat, zG0, zG1, zG2, zCa, zCi, zCb, zCs, zCf, zCn, zCt, zCm, zCp])
            |
              refine' HL_q rfl rfl (QV_move (Ev.tmp rfl)) ?_
              simp only [zS0, zS1, zTn, Nat.reduceAdd, Nat.reduceMul, Int.reduceToNat, zG0, zG1, zG2, zCa, zCi, zCb, zCs, zCf, zCn, zCt, zCm, zCp]
          first
            | (refine HL_skip rfl ?_; simp only [zS0, zS1, zTn, Nat.reduceAdd, Nat.reduceMul, Int.reduceToNat, zG0, zG1, zG2, zCa, zCi, zCb, zCs, zCf, zCn, zCt, zCm, zCp])
            |
              refine' HL_q rfl rfl (QV_field (Ev.tmp rfl) (fld67_1 _ _)) ?_
              simp only [zS0, zS1, zTn, Nat.reduceAdd, Nat.reduceMul, Int.reduceToNat, zG0, zG1, zG2, zCa, zCi, zCb, zCs, zCf, zCn, zCt, zCm, zCp]
          first
            | (refine HL_skip rfl ?_; simp only [zS0, zS1, zTn, Nat.reduceAdd, Nat.reduceMul, Int.reduceToNat, zG0, zG1, zG2, zCa, zCi, zCb, zCs, zCf, zCn, zCt, zCm, zCp])
            |
              first
                | (refine' HL_q rfl rfl (QV_load1 (Ev.tmp rfl) Try.isAgg30 ?hm ?hv) ?_; (case hm => (repeat (first | exact List.Mem.head _ | assumption | apply List.Mem.tail))); (case hv => (first | rfl | assumption)))
                | (refine' HL_q rfl rfl (QV_loadR (Ev.tmp rfl) ?hp Try.isAgg30 ?hs ?hv) ?_; (case hs => (first | assumption | (refine' Sl.sub (by assumption) ?_; (repeat (first | with_reducible exact List.Sublist.refl _ | with_reducible exact List.nil_sublist _ | with_reducible apply List.Sublist.cons_cons | with_reducible apply List.Sublist.cons))))); (case hv => (first  | rfl | assumption)); (case hp => (first | rfl | omega)))
              simp only [zS0, zS1, zTn, Nat.reduceAdd, Nat.reduceMul, Int.reduceToNat, zG0, zG1, zG2, zCa, zCi, zCb, zCs, zCf, zCn, zCt, zCm, zCp]
          first
            | (refine HL_skip rfl ?_; simp only [zS0, zS1, zTn, Nat.reduceAdd, Nat.reduceMul, Int.reduceToNat, zG0, zG1, zG2, zCa, zCi, zCb, zCs, zCf, zCn, zCt, zCm, zCp])
            |
              first
                | (refine' HL_q rfl rfl (QV_leq_y (Ev.tmp rfl) (Ev.tmp rfl) ?hb) ?_; case hb => omega)
                | (refine' HL_q rfl rfl (QV_leq_n (Ev.tmp rfl) (Ev.tmp rfl) ?hb) ?_; case hb => omega)
                | (refine' HL_q rfl rfl (QV_leq (Ev.tmp rfl) (Ev.tmp rfl)) ?_)
              simp only [zS0, zS1, zTn, Nat.reduceAdd, Nat.reduceMul, Int.reduceToNat, zG0, zG1, zG2, zCa, zCi, zCb, zCs, zCf, zCn, zCt, zCm, zCp]
          refine' HL_q rfl rfl (QV_pick (Ev.tmp rfl) (Ev.tmp rfl) Ev.const) ?_
          simp only [if_true, if_false, Bool.false_eq_true, reduceIte, zS0, zS1, zTn, Nat.reduceAdd, Nat.reduceMul, Int.reduceToNat, zG0, zG1, zG2, zCa, zCi, zCb, zCs, zCf, zCn, zCt, zCm, zCp]
          refine' HL_q rfl rfl (QV_assign (Ev.tmp rfl)) ?_
          simp only [zS0, zS1, zTn, Nat.reduceAdd, Nat.reduceMul, Int.reduceToNat, zG0, zG1, zG2, zCa, zCi, zCb, zCs, zCf, zCn, zCt, zCm, zCp]
          refine HL_nil ?_
          simp only [thenK]
          try simp only [thenK]
          refine' meetM hM5 (Gets.cons rfl Gets.nil) ?ag3 ?le ⟨rfl, rfl⟩
          case ag3 => (simp only [setL, List.set_cons_zero, List.set_cons_succ]; exact (Ag.keep (Ag.keep (Ag.keep (Ag.keep (Ag.keep (Ag.keep (Ag.keep (Ag.keep (Ag.keep (Ag.keep (Ag.keep (Ag.keep (Ag.keep (Ag.keep (Ag.keep (Ag.keep (Ag.keep (Ag.keep (Ag.keep (Ag.keep (Ag.keep (Ag.keep (Ag.keep (Ag.keep (Ag.keep (Ag.keep (Ag.any (Ag.any (Ag.any (Ag.any (Ag.any (Ag.any (Ag.any (Ag.any (Ag.any (Ag.any Ag.nil)))))))))))))))))))))))))))))))))))))
          case le => (first | with_reducible exact Le.refl | (refine Le.of ?_; (repeat (first | with_reducible exact Sp.refl | with_reducible exact Sp.nil | (apply Sp.pick; focus ((repeat (first | with_reducible exact Rm.head | with_reducible apply Rm.tail)); done)) | with_reducible refine Sp.drop ?_))))
    case rest =>
      rintro _ _ u ⟨rfl, rfl⟩
      simp only [setL, fill, List.set_cons_zero, List.set_cons_succ, Nat.reduceAdd]
      refine HC_seq fun N6 hN6 => ?_
      refine HC_region ?_
      refine' HL_q rfl rfl (QV_move (Ev.tmp rfl)) ?_
      simp only [zS0, zS1, zTn, Nat.reduceAdd, Nat.reduceMul, Int.reduceToNat, zG0, zG1, zG2, zCa, zCi, zCb, zCs, zCf, zCn, zCt, zCm, zCp]
      first
        | (refine' HL_q rfl rfl (QV_loadA (Ev.tmp rfl) Try.isAgg67 Try.sizeOf67 ?hm ?hv ?hn) ?_; (case hm => (repeat (first | exact List.Mem.head _ | assumption | apply List.Mem.tail))); (case hv => (simp only [List.toList_toArray, List.take_succ_cons, List.take_zero, List.drop_succ_cons, List.drop_zero, List.take_nil]; rfl)); (case hn => rfl))
        | (refine' HL_q rfl rfl (QV_loadRA (Ev.tmp rfl) ?hp Try.isAgg67 Try.sizeOf67 ?hs ?hv ?hn) ?_; (case hs => (first | assumption | (refine' Sl.sub (by assumption) ?_; (repeat (first | with_reducible exact List.Sublist.refl _ | with_reducible exact List.nil_sublist _ | with_reducible apply List.Sublist.cons_cons | with_reducible apply List.Sublist.cons))))); (case hp => rfl); (case hv => (first  | fail)); (case hn => rfl))
        | (refine' HL_q rfl rfl (QV_loadRA (Ev.tmp rfl) ?hp Try.isAgg67 Try.sizeOf67 ?hs ?hv ?hn) ?_; (case hs => (first | assumption | (refine' Sl.sub (by assumption) ?_; (repeat (first | with_reducible exact List.Sublist.refl _ | with_reducible exact List.nil_sublist _ | with_reducible apply List.Sublist.cons_cons | with_reducible apply List.Sublist.cons))))); (case hv => (first  | rfl)); (case hp => (first | rfl | omega)); (case hn => rfl))
      simp only [zS0, zS1, zTn, Nat.reduceAdd, Nat.reduceMul, Int.reduceToNat, zG0, zG1, zG2, zCa, zCi, zCb, zCs, zCf, zCn, zCt, zCm, zCp]
      -- operation 2
      refine' HL_call rfl en35 (call_fn (EvL.cons (Ev.tmp rfl) (EvL.cons (Ev.tmp rfl) EvL.nil)).evs) ((add_calls (l := l) (x := x) (y := y) (hs' _) hw hl)) ?_
      rintro _ _ ⟨A1, c1, o1, e1, rfl, rfl, hl1, hs1⟩
      simp only [zS0, zS1, zTn, Nat.reduceAdd, Nat.reduceMul, Int.reduceToNat, zG0, zG1, zG2, zCa, zCi, zCb, zCs, zCf, zCn, zCt, zCm, zCp]
      refine' HL_q rfl rfl (QV_move (Ev.tmp rfl)) ?_
      simp only [zS0, zS1, zTn, Nat.reduceAdd, Nat.reduceMul, Int.reduceToNat, zG0, zG1, zG2, zCa, zCi, zCb, zCs, zCf, zCn, zCt, zCm, zCp]
      refine' HL_q rfl rfl (QV_extract (Ev.tmp rfl) rfl) ?_
      simp only [zS0, zS1, zTn, Nat.reduceAdd, Nat.reduceMul, Int.reduceToNat, zG0, zG1, zG2, zCa, zCi, zCb, zCs, zCf, zCn, zCt, zCm, zCp]
      refine' HL_q rfl rfl (QV_extract (Ev.tmp rfl) rfl) ?_
      simp only [zS0, zS1, zTn, Nat.reduceAdd, Nat.reduceMul, Int.reduceToNat, zG0, zG1, zG2, zCa, zCi, zCb, zCs, zCf, zCn, zCt, zCm, zCp]
      refine' HL_q rfl rfl (QV_assign (Ev.tmp rfl)) ?_
      simp only [zS0, zS1, zTn, Nat.reduceAdd, Nat.reduceMul, Int.reduceToNat, zG0, zG1, zG2, zCa, zCi, zCb, zCs, zCf, zCn, zCt, zCm, zCp]
      refine' HL_q rfl rfl (QV_assign (Ev.tmp rfl)) ?_
      simp only [zS0, zS1, zTn, Nat.reduceAdd, Nat.reduceMul, Int.reduceToNat, zG0, zG1, zG2, zCa, zCi, zCb, zCs, zCf, zCn, zCt, zCm, zCp]
      refine HL_nil ?_
      refine hN6 _ _ ?_
      try clear hN6 N6
      refine HC_seq fun N7 hN7 => ?_
      refine HC_region ?_
      refine' HL_q rfl rfl (QV_move (Ev.tmp rfl)) ?_
      simp only [zS0, zS1, zTn, Nat.reduceAdd, Nat.reduceMul, Int.reduceToNat, zG0, zG1, zG2, zCa, zCi, zCb, zCs, zCf, zCn, zCt, zCm, zCp]
      first
        | (refine' HL_q rfl rfl (QV_loadA (Ev.tmp rfl) Try.isAgg67 Try.sizeOf67 ?hm ?hv ?hn) ?_; (case hm => (repeat (first | exact List.Mem.head _ | assumption | apply List.Mem.tail))); (case hv => (simp only [List.toList_toArray, List.take_succ_cons, List.take_zero, List.drop_succ_cons, List.drop_zero, List.take_nil]; rfl)); (case hn => rfl))
        | (refine' HL_q rfl rfl (QV_loadRA (Ev.tmp rfl) ?hp Try.isAgg67 Try.sizeOf67 ?hs ?hv ?hn) ?_; (case hs => (first | assumption | (refine' Sl.sub (by assumption) ?_; (repeat (first | with_reducible exact List.Sublist.refl _ | with_reducible exact List.nil_sublist _ | with_reducible apply List.Sublist.cons_cons | with_reducible apply List.Sublist.cons))))); (case hp => rfl); (case hv => (first  | fail)); (case hn => rfl))
        | (refine' HL_q rfl rfl (QV_loadRA (Ev.tmp rfl) ?hp Try.isAgg67 Try.sizeOf67 ?hs ?hv ?hn) ?_; (case hs => (first | assumption | (refine' Sl.sub (by assumption) ?_; (repeat (first | with_reducible exact List.Sublist.refl _ | with_reducible exact List.nil_sublist _ | with_reducible apply List.Sublist.cons_cons | with_reducible apply List.Sublist.cons))))); (case hv => (first  | rfl)); (case hp => (first | rfl | omega)); (case hn => rfl))
      simp only [zS0, zS1, zTn, Nat.reduceAdd, Nat.reduceMul, Int.reduceToNat, zG0, zG1, zG2, zCa, zCi, zCb, zCs, zCf, zCn, zCt, zCm, zCp]
      -- operation 2
      refine' HL_call rfl en36 (call_fn (EvL.cons (Ev.tmp rfl) (EvL.cons (Ev.tmp rfl) EvL.nil)).evs) ((cut_calls (l := l) (x := x) (y := y) (hs' _) hw hl)) ?_
      rintro _ _ ⟨A2, c2, o2, e2, rfl, rfl, hl2, hs2⟩
      simp only [zS0, zS1, zTn, Nat.reduceAdd, Nat.reduceMul, Int.reduceToNat, zG0, zG1, zG2, zCa, zCi, zCb, zCs, zCf, zCn, zCt, zCm, zCp]
      refine' HL_q rfl rfl (QV_move (Ev.tmp rfl)) ?_
      simp only [zS0, zS1, zTn, Nat.reduceAdd, Nat.reduceMul, Int.reduceToNat, zG0, zG1, zG2, zCa, zCi, zCb, zCs, zCf, zCn, zCt, zCm, zCp]
      refine' HL_q rfl rfl (QV_extract (Ev.tmp rfl) rfl) ?_
      simp only [zS0, zS1, zTn, Nat.reduceAdd, Nat.reduceMul, Int.reduceToNat, zG0, zG1, zG2, zCa, zCi, zCb, zCs, zCf, zCn, zCt, zCm, zCp]
      refine' HL_q rfl rfl (QV_extract (Ev.tmp rfl) rfl) ?_
      simp only [zS0, zS1, zTn, Nat.reduceAdd, Nat.reduceMul, Int.reduceToNat, zG0, zG1, zG2, zCa, zCi, zCb, zCs, zCf, zCn, zCt, zCm, zCp]
      refine' HL_q rfl rfl (QV_assign (Ev.tmp rfl)) ?_
      simp only [zS0, zS1, zTn, Nat.reduceAdd, Nat.reduceMul, Int.reduceToNat, zG0, zG1, zG2, zCa, zCi, zCb, zCs, zCf, zCn, zCt, zCm, zCp]
      refine' HL_q rfl rfl (QV_assign (Ev.tmp rfl)) ?_
      simp only [zS0, zS1, zTn, Nat.reduceAdd, Nat.reduceMul, Int.reduceToNat, zG0, zG1, zG2, zCa, zCi, zCb, zCs, zCf, zCn, zCt, zCm, zCp]
      refine HL_nil ?_
      refine hN7 _ _ ?_
      try clear hN7 N7
      rcases hs1 with ⟨hno, rfl, rfl⟩ | ⟨⟨ok1, ok2⟩, o, k1, m1, hor1⟩
      · rcases hs2 with ⟨hno2, rfl, rfl⟩ | ⟨hok, _⟩
        · by_cases c1 : SetOk l
          · have c2 : ¬ (x ≤ y ∧ y ≤ 4611686018427387903) := fun h => hno ⟨c1, (mayR_iff _).2 h⟩
            rcases (show y < x ∨ (x ≤ y ∧ 4611686018427387903 < y) by omega) with c3 | ⟨c3, c4⟩
            · skip
              refine HC_seq fun N8 hN8 => ?_
              refine HC_seq fun N9 hN9 => ?_
              refine HC_region ?_
              refine' HL_q rfl rfl (QV_move (Ev.tmp rfl)) ?_
              simp only [zS0, zS1, zTn, Nat.reduceAdd, Nat.reduceMul, Int.reduceToNat, zG0, zG1, zG2, zCa, zCi, zCb, zCs, zCf, zCn, zCt, zCm, zCp]
              first
                | (refine' HL_q rfl rfl (QV_eql_y (Ev.tmp rfl) Ev.const ?hb) ?_; case hb => omega)
                | (refine' HL_q rfl rfl (QV_eql_n (Ev.tmp rfl) Ev.const ?hb) ?_; case hb => omega)
                | (refine' HL_q rfl rfl (QV_eql (Ev.tmp rfl) Ev.const) ?_)
              simp only [zS0, zS1, zTn, Nat.reduceAdd, Nat.reduceMul, Int.reduceToNat, zG0, zG1, zG2, zCa, zCi, zCb, zCs, zCf, zCn, zCt, zCm, zCp]
              refine' HL_q rfl rfl (QV_move (Ev.tmp rfl)) ?_
              simp only [zS0, zS1, zTn, Nat.reduceAdd, Nat.reduceMul, Int.reduceToNat, zG0, zG1, zG2, zCa, zCi, zCb, zCs, zCf, zCn, zCt, zCm, zCp]
              first
                | (refine HL_skip rfl ?_; simp only [zS0, zS1, zTn, Nat.reduceAdd, Nat.reduceMul, Int.reduceToNat, zG0, zG1, zG2, zCa, zCi, zCb, zCs, zCf, zCn, zCt, zCm, zCp])
                |
                  refine' HL_q rfl rfl (QV_move (Ev.tmp rfl)) ?_
                  simp only [zS0, zS1, zTn, Nat.reduceAdd, Nat.reduceMul, Int.reduceToNat, zG0, zG1, zG2, zCa, zCi, zCb, zCs, zCf, zCn, zCt, zCm, zCp]
              first
                | (refine HL_skip rfl ?_; simp only [zS0, zS1, zTn, Nat.reduceAdd, Nat.reduceMul, Int.reduceToNat, zG0, zG1, zG2, zCa, zCi, zCb, zCs, zCf, zCn, zCt, zCm, zCp])
                |
                  refine' HL_call rfl en45 (call_fn (EvL.cons (Ev.tmp rfl) EvL.nil).evs) ((check_calls (l := o1) (hl1.sub (by (repeat (first | with_reducible exact List.Sublist.refl _ | with_reducible exact List.nil_sublist _ | with_reducible apply List.Sublist.cons_cons | with_reducible apply List.Sublist.cons)))) (wide_of k1) (canon_long ⟨k1, h1⟩))) ?_
                  rintro _ _ ⟨b, rfl, hb, rfl⟩
                  obtain rfl : b = true := hb.2 ⟨k1, h1⟩
                  simp only [zS0, zS1, zTn, Nat.reduceAdd, Nat.reduceMul, Int.reduceToNat, zG0, zG1, zG2, zCa, zCi, zCb, zCs, zCf, zCn, zCt, zCm, zCp]
              first
                | (refine HL_skip rfl ?_; simp only [zS0, zS1, zTn, Nat.reduceAdd, Nat.reduceMul, Int.reduceToNat, zG0, zG1, zG2, zCa, zCi, zCb, zCs, zCf, zCn, zCt, zCm, zCp])
                |
                  refine' HL_q rfl rfl (QV_un (Ev.tmp rfl) ?hr) ?_
                  case hr => intro w; first | (go_simp; done) | (go_simp; rfl)
                  simp only [zS0, zS1, zTn, Nat.reduceAdd, Nat.reduceMul, Int.reduceToNat, zG0, zG1, zG2, zCa, zCi, zCb, zCs, zCf, zCn, zCt, zCm, zCp]
              first
                | (refine HL_skip rfl ?_; simp only [zS0, zS1, zTn, Nat.reduceAdd, Nat.reduceMul, Int.reduceToNat, zG0, zG1, zG2, zCa, zCi, zCb, zCs, zCf, zCn, zCt, zCm, zCp])
                |
                  refine' HL_q rfl rfl (QV_move (Ev.tmp rfl)) ?_
                  simp only [zS0, zS1, zTn, Nat.reduceAdd, Nat.reduceMul, Int.reduceToNat, zG0, zG1, zG2, zCa, zCi, zCb, zCs, zCf, zCn, zCt, zCm, zCp]
              first
                | (refine HL_skip rfl ?_; simp only [zS0, zS1, zTn, Nat.reduceAdd, Nat.reduceMul, Int.reduceToNat, zG0, zG1, zG2, zCa, zCi, zCb, zCs, zCf, zCn, zCt, zCm, zCp])
                |
                  refine' HL_q rfl rfl (QV_move (Ev.tmp rfl)) ?_
                  simp only [zS0, zS1, zTn, Nat.reduceAdd, Nat.reduceMul, Int.reduceToNat, zG0, zG1, zG2, zCa, zCi, zCb, zCs, zCf, zCn, zCt, zCm, zCp]
              first
                | (refine HL_skip rfl ?_; simp only [zS0, zS1, zTn, Nat.reduceAdd, Nat.reduceMul, Int.reduceToNat, zG0, zG1, zG2, zCa, zCi, zCb, zCs, zCf, zCn, zCt, zCm, zCp])
                |
                  refine' HL_q rfl rfl (QV_move (Ev.tmp rfl)) ?_
                  simp only [zS0, zS1, zTn, Nat.reduceAdd, Nat.reduceMul, Int.reduceToNat, zG0, zG1, zG2, zCa, zCi, zCb, zCs, zCf, zCn, zCt, zCm, zCp]
              first
                | (refine HL_skip rfl ?_; simp only [zS0, zS1, zTn, Nat.reduceAdd, Nat.reduceMul, Int.reduceToNat, zG0, zG1, zG2, zCa, zCi, zCb, zCs, zCf, zCn, zCt, zCm, zCp])
                |
                  refine' HL_call rfl en46 (call_fn (EvL.cons (Ev.tmp rfl) (EvL.cons (Ev.tmp rfl) EvL.nil)).evs) ((has_calls (l := o1) (n := n) (hl1.sub (by (repeat (first | with_reducible exact List.Sublist.refl _ | with_reducible exact List.nil_sublist _ | with_reducible apply List.Sublist.cons_cons | with_reducible apply List.Sublist.cons)))) (canon_long ⟨k1, h1⟩))) ?_
                  rintro _ _ ⟨rfl, rfl⟩
                  simp only [zS0, zS1, zTn, Nat.reduceAdd, Nat.reduceMul, Int.reduceToNat, zG0, zG1, zG2, zCa, zCi, zCb, zCs, zCf, zCn, zCt, zCm, zCp]
              first
                | (refine HL_skip rfl ?_; simp only [zS0, zS1, zTn, Nat.reduceAdd, Nat.reduceMul, Int.reduceToNat, zG0, zG1, zG2, zCa, zCi, zCb, zCs, zCf, zCn, zCt, zCm, zCp])
                |
                  refine' HL_q rfl rfl (QV_move (Ev.tmp rfl)) ?_
                  simp only [zS0, zS1, zTn, Nat.reduceAdd, Nat.reduceMul, Int.reduceToNat, zG0, zG1, zG2, zCa, zCi, zCb, zCs, zCf, zCn, zCt, zCm, zCp]
              first
                | (refine HL_skip rfl ?_; simp only [zS0, zS1, zTn, Nat.reduceAdd, Nat.reduceMul, Int.reduceToNat, zG0, zG1, zG2, zCa, zCi, zCb, zCs, zCf, zCn, zCt, zCm, zCp])
                |
                  refine' HL_q rfl rfl (QV_move (Ev.tmp rfl)) ?_
                  simp only [zS0, zS1, zTn, Nat.reduceAdd, Nat.reduceMul, Int.reduceToNat, zG0, zG1, zG2, zCa, zCi, zCb, zCs, zCf, zCn, zCt, zCm, zCp]
              first
                | (refine HL_skip rfl ?_; simp only [zS0, zS1, zTn, Nat.reduceAdd, Nat.reduceMul, Int.reduceToNat, zG0, zG1, zG2, zCa, zCi, zCb, zCs, zCf, zCn, zCt, zCm, zCp])
                |
                  refine' HL_q rfl rfl (QV_move (Ev.tmp rfl)) ?_
                  simp only [zS0, zS1, zTn, Nat.reduceAdd, Nat.reduceMul, Int.reduceToNat, zG0, zG1, zG2, zCa, zCi, zCb, zCs, zCf, zCn, zCt, zCm, zCp]
              first
                | (refine HL_skip rfl ?_; simp only [zS0, zS1, zTn, Nat.reduceAdd, Nat.reduceMul, Int.reduceToNat, zG0, zG1, zG2, zCa, zCi, zCb, zCs, zCf, zCn, zCt, zCm, zCp])
                |
                  refine' HL_q rfl rfl (QV_move (Ev.tmp rfl)) ?_
                  simp only [zS0, zS1, zTn, Nat.reduceAdd, Nat.reduceMul, Int.reduceToNat, zG0, zG1, zG2, zCa, zCi, zCb, zCs, zCf, zCn, zCt, zCm, zCp]
              first
                | (refine HL_skip rfl ?_; simp only [zS0, zS1, zTn, Nat.reduceAdd, Nat.reduceMul, Int.reduceToNat, zG0, zG1, zG2, zCa, zCi, zCb, zCs, zCf, zCn, zCt, zCm, zCp])
                |
                  refine' HL_call rfl en46 (call_fn (EvL.cons (Ev.tmp rfl) (EvL.cons (Ev.tmp rfl) EvL.nil)).evs) ((has_calls (l := l) (n := n) (hs' _) hl)) ?_
                  rintro _ _ ⟨rfl, rfl⟩
                  simp only [zS0, zS1, zTn, Nat.reduceAdd, Nat.reduceMul, Int.reduceToNat, zG0, zG1, zG2, zCa, zCi, zCb, zCs, zCf, zCn, zCt, zCm, zCp]
              first
                | (refine HL_skip rfl ?_; simp only [zS0, zS1, zTn, Nat.reduceAdd, Nat.reduceMul, Int.reduceToNat, zG0, zG1, zG2, zCa, zCi, zCb, zCs, zCf, zCn, zCt, zCm, zCp])
                |
                  refine' HL_q rfl rfl (QV_pick (Ev.tmp rfl) Ev.const (Ev.tmp rfl)) ?_
                  simp only [if_true, if_false, Bool.false_eq_true, reduceIte, zS0, zS1, zTn, Nat.reduceAdd, Nat.reduceMul, Int.reduceToNat, zG0, zG1, zG2, zCa, zCi, zCb, zCs, zCf, zCn, zCt, zCm, zCp]
              first
                | (refine HL_skip rfl ?_; simp only [zS0, zS1, zTn, Nat.reduceAdd, Nat.reduceMul, Int.reduceToNat, zG0, zG1, zG2, zCa, zCi, zCb, zCs, zCf, zCn, zCt, zCm, zCp])
                |
                  refine' HL_q rfl rfl (QV_bin (Ev.tmp rfl) (Ev.tmp rfl) ?hr) ?_
                  case hr => intro w; first | (go_simp; done) | (go_simp; rfl)
                  simp only [zS0, zS1, zTn, Nat.reduceAdd, Nat.reduceMul, Int.reduceToNat, zG0, zG1, zG2, zCa, zCi, zCb, zCs, zCf, zCn, zCt, zCm, zCp]
              first
                | (refine HL_skip rfl ?_; simp only [zS0, zS1, zTn, Nat.reduceAdd, Nat.reduceMul, Int.reduceToNat, zG0, zG1, zG2, zCa, zCi, zCb, zCs, zCf, zCn, zCt, zCm, zCp])
                |
                  refine' HL_q rfl rfl (QV_pick (Ev.tmp rfl) Ev.const (Ev.tmp rfl)) ?_
                  simp only [if_true, if_false, Bool.false_eq_true, reduceIte, zS0, zS1, zTn, Nat.reduceAdd, Nat.reduceMul, Int.reduceToNat, zG0, zG1, zG2, zCa, zCi, zCb, zCs, zCf, zCn, zCt, zCm, zCp]
              refine' HL_q rfl rfl (QV_pick (Ev.tmp rfl) (Ev.tmp rfl) Ev.const) ?_
              simp only [if_true, if_false, Bool.false_eq_true, reduceIte, zS0, zS1, zTn, Nat.reduceAdd, Nat.reduceMul, Int.reduceToNat, zG0, zG1, zG2, zCa, zCi, zCb, zCs, zCf, zCn, zCt, zCm, zCp]
              refine HL_nil ?_
              refine hN9 _ _ ?_
              try clear hN9 N9
              refine HC_false rfl ?_
              refine HC_skip ?_
              refine hN8 _ _ ?_
              try clear hN8 N8
              refine HC_seq fun N11 hN11 => ?_
              refine HC_seq fun N12 hN12 => ?_
              refine HC_region ?_
              refine' HL_q rfl rfl (QV_move (Ev.tmp rfl)) ?_
              simp only [zS0, zS1, zTn, Nat.reduceAdd, Nat.reduceMul, Int.reduceToNat, zG0, zG1, zG2, zCa, zCi, zCb, zCs, zCf, zCn, zCt, zCm, zCp]
              first
                | (refine' HL_q rfl rfl (QV_eql_y (Ev.tmp rfl) Ev.const ?hb) ?_; case hb => omega)
                | (refine' HL_q rfl rfl (QV_eql_n (Ev.tmp rfl) Ev.const ?hb) ?_; case hb => omega)
                | (refine' HL_q rfl rfl (QV_eql (Ev.tmp rfl) Ev.const) ?_)
              simp only [zS0, zS1, zTn, Nat.reduceAdd, Nat.reduceMul, Int.reduceToNat, zG0, zG1, zG2, zCa, zCi, zCb, zCs, zCf, zCn, zCt, zCm, zCp]
              refine' HL_q rfl rfl (QV_move (Ev.tmp rfl)) ?_
              simp only [zS0, zS1, zTn, Nat.reduceAdd, Nat.reduceMul, Int.reduceToNat, zG0, zG1, zG2, zCa, zCi, zCb, zCs, zCf, zCn, zCt, zCm, zCp]
              first
                | (refine HL_skip rfl ?_; simp only [zS0, zS1, zTn, Nat.reduceAdd, Nat.reduceMul, Int.reduceToNat, zG0, zG1, zG2, zCa, zCi, zCb, zCs, zCf, zCn, zCt, zCm, zCp])
                |
                  refine' HL_q rfl rfl (QV_move (Ev.tmp rfl)) ?_
                  simp only [zS0, zS1, zTn, Nat.reduceAdd, Nat.reduceMul, Int.reduceToNat, zG0, zG1, zG2, zCa, zCi, zCb, zCs, zCf, zCn, zCt, zCm, zCp]
              first
                | (refine HL_skip rfl ?_; simp only [zS0, zS1, zTn, Nat.reduceAdd, Nat.reduceMul, Int.reduceToNat, zG0, zG1, zG2, zCa, zCi, zCb, zCs, zCf, zCn, zCt, zCm, zCp])
                |
                  refine' HL_call rfl en45 (call_fn (EvL.cons (Ev.tmp rfl) EvL.nil).evs) ((check_calls (l := o2) (hl2.sub (by (repeat (first | with_reducible exact List.Sublist.refl _ | with_reducible exact List.nil_sublist _ | with_reducible apply List.Sublist.cons_cons | with_reducible apply List.Sublist.cons)))) (wide_of k2) (canon_long ⟨k2, h2⟩))) ?_
                  rintro _ _ ⟨b, rfl, hb, rfl⟩
                  obtain rfl : b = true := hb.2 ⟨k2, h2⟩
                  simp only [zS0, zS1, zTn, Nat.reduceAdd, Nat.reduceMul, Int.reduceToNat, zG0, zG1, zG2, zCa, zCi, zCb, zCs, zCf, zCn, zCt, zCm, zCp]
              first
                | (refine HL_skip rfl ?_; simp only [zS0, zS1, zTn, Nat.reduceAdd, Nat.reduceMul, Int.reduceToNat, zG0, zG1, zG2, zCa, zCi, zCb, zCs, zCf, zCn, zCt, zCm, zCp])
                |
                  refine' HL_q rfl rfl (QV_un (Ev.tmp rfl) ?hr) ?_
                  case hr => intro w; first | (go_simp; done) | (go_simp; rfl)
                  simp only [zS0, zS1, zTn, Nat.reduceAdd, Nat.reduceMul, Int.reduceToNat, zG0, zG1, zG2, zCa, zCi, zCb, zCs, zCf, zCn, zCt, zCm, zCp]
              first
                | (refine HL_skip rfl ?_; simp only [zS0, zS1, zTn, Nat.reduceAdd, Nat.reduceMul, Int.reduceToNat, zG0, zG1, zG2, zCa, zCi, zCb, zCs, zCf, zCn, zCt, zCm, zCp])
                |
                  refine' HL_q rfl rfl (QV_move (Ev.tmp rfl)) ?_
                  simp only [zS0, zS1, zTn, Nat.reduceAdd, Nat.reduceMul, Int.reduceToNat, zG0, zG1, zG2, zCa, zCi, zCb, zCs, zCf, zCn, zCt, zCm, zCp]
              first
                | (refine HL_skip rfl ?_; simp only [zS0, zS1, zTn, Nat.reduceAdd, Nat.reduceMul, Int.reduceToNat, zG0, zG1, zG2, zCa, zCi, zCb, zCs, zCf, zCn, zCt, zCm, zCp])
                |
                  refine' HL_q rfl rfl (QV_move (Ev.tmp rfl)) ?_
                  simp only [zS0, zS1, zTn, Nat.reduceAdd, Nat.reduceMul, Int.reduceToNat, zG0, zG1, zG2, zCa, zCi, zCb, zCs, zCf, zCn, zCt, zCm, zCp]
              first
                | (refine HL_skip rfl ?_; simp only [zS0, zS1, zTn, Nat.reduceAdd, Nat.reduceMul, Int.reduceToNat, zG0, zG1, zG2, zCa, zCi, zCb, zCs, zCf, zCn, zCt, zCm, zCp])
                |
                  refine' HL_q rfl rfl (QV_move (Ev.tmp rfl)) ?_
                  simp only [zS0, zS1, zTn, Nat.reduceAdd, Nat.reduceMul, Int.reduceToNat, zG0, zG1, zG2, zCa, zCi, zCb, zCs, zCf, zCn, zCt, zCm, zCp]
              first
                | (refine HL_skip rfl ?_; simp only [zS0, zS1, zTn, Nat.reduceAdd, Nat.reduceMul, Int.reduceToNat, zG0, zG1, zG2, zCa, zCi, zCb, zCs, zCf, zCn, zCt, zCm, zCp])
                |
                  refine' HL_call rfl en46 (call_fn (EvL.cons (Ev.tmp rfl) (EvL.cons (Ev.tmp rfl) EvL.nil)).evs) ((has_calls (l := o2) (n := n) (hl2.sub (by (repeat (first | with_reducible exact List.Sublist.refl _ | with_reducible exact List.nil_sublist _ | with_reducible apply List.Sublist.cons_cons | with_reducible apply List.Sublist.cons)))) (canon_long ⟨k2, h2⟩))) ?_
                  rintro _ _ ⟨rfl, rfl⟩
                  simp only [zS0, zS1, zTn, Nat.reduceAdd, Nat.reduceMul, Int.reduceToNat, zG0, zG1, zG2, zCa, zCi, zCb, zCs, zCf, zCn, zCt, zCm, zCp]
              first
                | (refine HL_skip rfl ?_; simp only [zS0, zS1, zTn, Nat.reduceAdd, Nat.reduceMul, Int.reduceToNat, zG0, zG1, zG2, zCa, zCi, zCb, zCs, zCf, zCn, zCt, zCm, zCp])
                |
                  refine' HL_q rfl rfl (QV_move (Ev.tmp rfl)) ?_
                  simp only [zS0, zS1, zTn, Nat.reduceAdd, Nat.reduceMul, Int.reduceToNat, zG0, zG1, zG2, zCa, zCi, zCb, zCs, zCf, zCn, zCt, zCm, zCp]
              first
                | (refine HL_skip rfl ?_; simp only [zS0, zS1, zTn, Nat.reduceAdd, Nat.reduceMul, Int.reduceToNat, zG0, zG1, zG2, zCa, zCi, zCb, zCs, zCf, zCn, zCt, zCm, zCp])
                |
                  refine' HL_q rfl rfl (QV_un (Ev.tmp rfl) ?hr) ?_
                  case hr => intro w; first | (go_simp; done) | (go_simp; rfl)
                  simp only [zS0, zS1, zTn, Nat.reduceAdd, Nat.reduceMul, Int.reduceToNat, zG0, zG1, zG2, zCa, zCi, zCb, zCs, zCf, zCn, zCt, zCm, zCp]
              first
                | (refine HL_skip rfl ?_; simp only [zS0, zS1, zTn, Nat.reduceAdd, Nat.reduceMul, Int.reduceToNat, zG0, zG1, zG2, zCa, zCi, zCb, zCs, zCf, zCn, zCt, zCm, zCp])
                |
                  refine' HL_q rfl rfl (QV_move (Ev.tmp rfl)) ?_
                  simp only [zS0, zS1, zTn, Nat.reduceAdd, Nat.reduceMul, Int.reduceToNat, zG0, zG1, zG2, zCa, zCi, zCb, zCs, zCf, zCn, zCt, zCm, zCp]
              first
                | (refine HL_skip rfl ?_; simp only [zS0, zS1, zTn, Nat.reduceAdd, Nat.reduceMul, Int.reduceToNat, zG0, zG1, zG2, zCa, zCi, zCb, zCs, zCf, zCn, zCt, zCm, zCp])
                |
                  refine' HL_q rfl rfl (QV_move (Ev.tmp rfl)) ?_
                  simp only [zS0, zS1, zTn, Nat.reduceAdd, Nat.reduceMul, Int.reduceToNat, zG0, zG1, zG2, zCa, zCi, zCb, zCs, zCf, zCn, zCt, zCm, zCp]
              first
                | (refine HL_skip rfl ?_; simp only [zS0, zS1, zTn, Nat.reduceAdd, Nat.reduceMul, Int.reduceToNat, zG0, zG1, zG2, zCa, zCi, zCb, zCs, zCf, zCn, zCt, zCm, zCp])
                |
                  refine' HL_q rfl rfl (QV_move (Ev.tmp rfl)) ?_
                  simp only [zS0, zS1, zTn, Nat.reduceAdd, Nat.reduceMul, Int.reduceToNat, zG0, zG1, zG2, zCa, zCi, zCb, zCs, zCf, zCn, zCt, zCm, zCp]
              first
                | (refine HL_skip rfl ?_; simp only [zS0, zS1, zTn, Nat.reduceAdd, Nat.reduceMul, Int.reduceToNat, zG0, zG1, zG2, zCa, zCi, zCb, zCs, zCf, zCn, zCt, zCm, zCp])
                |
                  refine' HL_call rfl en46 (call_fn (EvL.cons (Ev.tmp rfl) (EvL.cons (Ev.tmp rfl) EvL.nil)).evs) ((has_calls (l := l) (n := n) (hs' _) hl)) ?_
                  rintro _ _ ⟨rfl, rfl⟩
                  simp only [zS0, zS1, zTn, Nat.reduceAdd, Nat.reduceMul, Int.reduceToNat, zG0, zG1, zG2, zCa, zCi, zCb, zCs, zCf, zCn, zCt, zCm, zCp]
              first
                | (refine HL_skip rfl ?_; simp only [zS0, zS1, zTn, Nat.reduceAdd, Nat.reduceMul, Int.reduceToNat, zG0, zG1, zG2, zCa, zCi, zCb, zCs, zCf, zCn, zCt, zCm, zCp])
                |
                  refine' HL_q rfl rfl (QV_pick (Ev.tmp rfl) (Ev.tmp rfl) Ev.const) ?_
                  simp only [if_true, if_false, Bool.false_eq_true, reduceIte, zS0, zS1, zTn, Nat.reduceAdd, Nat.reduceMul, Int.reduceToNat, zG0, zG1, zG2, zCa, zCi, zCb, zCs, zCf, zCn, zCt, zCm, zCp]
              first
                | (refine HL_skip rfl ?_; simp only [zS0, zS1, zTn, Nat.reduceAdd, Nat.reduceMul, Int.reduceToNat, zG0, zG1, zG2, zCa, zCi, zCb, zCs, zCf, zCn, zCt, zCm, zCp])
                |
                  refine' HL_q rfl rfl (QV_bin (Ev.tmp rfl) (Ev.tmp rfl) ?hr) ?_
                  case hr => intro w; first | (go_simp; done) | (go_simp; rfl)
                  simp only [zS0, zS1, zTn, Nat.reduceAdd, Nat.reduceMul, Int.reduceToNat, zG0, zG1, zG2, zCa, zCi, zCb, zCs, zCf, zCn, zCt, zCm, zCp]
              first
                | (refine HL_skip rfl ?_; simp only [zS0, zS1, zTn, Nat.reduceAdd, Nat.reduceMul, Int.reduceToNat, zG0, zG1, zG2, zCa, zCi, zCb, zCs, zCf, zCn, zCt, zCm, zCp])
                |
                  refine' HL_q rfl rfl (QV_pick (Ev.tmp rfl) Ev.const (Ev.tmp rfl)) ?_
                  simp only [if_true, if_false, Bool.false_eq_true, reduceIte, zS0, zS1, zTn, Nat.reduceAdd, Nat.reduceMul, Int.reduceToNat, zG0, zG1, zG2, zCa, zCi, zCb, zCs, zCf, zCn, zCt, zCm, zCp]
              refine' HL_q rfl rfl (QV_pick (Ev.tmp rfl) (Ev.tmp rfl) Ev.const) ?_
              simp only [if_true, if_false, Bool.false_eq_true, reduceIte, zS0, zS1, zTn, Nat.reduceAdd, Nat.reduceMul, Int.reduceToNat, zG0, zG1, zG2, zCa, zCi, zCb, zCs, zCf, zCn, zCt, zCm, zCp]
              refine HL_nil ?_
              refine hN12 _ _ ?_
              try clear hN12 N12
              refine HC_false rfl ?_
              refine HC_skip ?_
              refine hN11 _ _ ?_
              try clear hN11 N11
              refine HC_seq fun N14 hN14 => ?_
              refine HC_region ?_
              refine' HL_q rfl rfl (QV_move (Ev.tmp rfl)) ?_
              simp only [zS0, zS1, zTn, Nat.reduceAdd, Nat.reduceMul, Int.reduceToNat, zG0, zG1, zG2, zCa, zCi, zCb, zCs, zCf, zCn, zCt, zCm, zCp]
              -- operation 1
              refine' HL_call rfl en45 (call_fn (EvL.cons (Ev.tmp rfl) EvL.nil).evs) ((check_calls (hs' _) hw hl)) ?_
              rintro _ _ ⟨b, rfl, hb, rfl⟩
              obtain rfl : b = true := hb.2 c1
              simp only [zS0, zS1, zTn, Nat.reduceAdd, Nat.reduceMul, Int.reduceToNat, zG0, zG1, zG2, zCa, zCi, zCb, zCs, zCf, zCn, zCt, zCm, zCp]
              refine' HL_q rfl rfl (QV_un (Ev.tmp rfl) ?hr) ?_
              case hr => intro w; first | (go_simp; done) | (go_simp; rfl)
              simp only [zS0, zS1, zTn, Nat.reduceAdd, Nat.reduceMul, Int.reduceToNat, zG0, zG1, zG2, zCa, zCi, zCb, zCs, zCf, zCn, zCt, zCm, zCp]
              refine' HL_q rfl rfl (QV_move (Ev.tmp rfl)) ?_
              simp only [zS0, zS1, zTn, Nat.reduceAdd, Nat.reduceMul, Int.reduceToNat, zG0, zG1, zG2, zCa, zCi, zCb, zCs, zCf, zCn, zCt, zCm, zCp]
              first
                | (refine HL_skip rfl ?_; simp only [zS0, zS1, zTn, Nat.reduceAdd, Nat.reduceMul, Int.reduceToNat, zG0, zG1, zG2, zCa, zCi, zCb, zCs, zCf, zCn, zCt, zCm, zCp])
                |
                  refine' HL_q rfl rfl (QV_field (Ev.tmp rfl) (fld67_0 _ _)) ?_
                  simp only [zS0, zS1, zTn, Nat.reduceAdd, Nat.reduceMul, Int.reduceToNat, zG0, zG1, zG2, zCa, zCi, zCb, zCs, zCf, zCn, zCt, zCm, zCp]
              first
                | (refine HL_skip rfl ?_; simp only [zS0, zS1, zTn, Nat.reduceAdd, Nat.reduceMul, Int.reduceToNat, zG0, zG1, zG2, zCa, zCi, zCb, zCs, zCf, zCn, zCt, zCm, zCp])
                |
                  first
                    | (refine' HL_q rfl rfl (QV_load1 (Ev.tmp rfl) Try.isAgg30 ?hm ?hv) ?_; (case hm => (repeat (first | exact List.Mem.head _ | assumption | apply List.Mem.tail))); (case hv => (first | rfl | assumption)))
                    | (refine' HL_q rfl rfl (QV_loadR (Ev.tmp rfl) ?hp Try.isAgg30 ?hs ?hv) ?_; (case hs => (first | assumption | (refine' Sl.sub (by assumption) ?_; (repeat (first | with_reducible exact List.Sublist.refl _ | with_reducible exact List.nil_sublist _ | with_reducible apply List.Sublist.cons_cons | with_reducible apply List.Sublist.cons))))); (case hv => (first  | rfl | assumption)); (case hp => (first | rfl | omega)))
                  simp only [zS0, zS1, zTn, Nat.reduceAdd, Nat.reduceMul, Int.reduceToNat, zG0, zG1, zG2, zCa, zCi, zCb, zCs, zCf, zCn, zCt, zCm, zCp]
              first
                | (refine HL_skip rfl ?_; simp only [zS0, zS1, zTn, Nat.reduceAdd, Nat.reduceMul, Int.reduceToNat, zG0, zG1, zG2, zCa, zCi, zCb, zCs, zCf, zCn, zCt, zCm, zCp])
                |
                  refine' HL_q rfl rfl (QV_field (Ev.tmp rfl) (fld67_1 _ _)) ?_
                  simp only [zS0, zS1, zTn, Nat.reduceAdd, Nat.reduceMul, Int.reduceToNat, zG0, zG1, zG2, zCa, zCi, zCb, zCs, zCf, zCn, zCt, zCm, zCp]
              first
                | (refine HL_skip rfl ?_; simp only [zS0, zS1, zTn, Nat.reduceAdd, Nat.reduceMul, Int.reduceToNat, zG0, zG1, zG2, zCa, zCi, zCb, zCs, zCf, zCn, zCt, zCm, zCp])
                |
                  first
                    | (refine' HL_q rfl rfl (QV_load1 (Ev.tmp rfl) Try.isAgg30 ?hm ?hv) ?_; (case hm => (repeat (first | exact List.Mem.head _ | assumption | apply List.Mem.tail))); (case hv => (first | rfl | assumption)))
                    | (refine' HL_q rfl rfl (QV_loadR (Ev.tmp rfl) ?hp Try.isAgg30 ?hs ?hv) ?_; (case hs => (first | assumption | (refine' Sl.sub (by assumption) ?_; (repeat (first | with_reducible exact List.Sublist.refl _ | with_reducible exact List.nil_sublist _ | with_reducible apply List.Sublist.cons_cons | with_reducible apply List.Sublist.cons))))); (case hv => (first  | rfl | assumption)); (case hp => (first | rfl | omega)))
                  simp only [zS0, zS1, zTn, Nat.reduceAdd, Nat.reduceMul, Int.reduceToNat, zG0, zG1, zG2, zCa, zCi, zCb, zCs, zCf, zCn, zCt, zCm, zCp]
              first
                | (refine HL_skip rfl ?_; simp only [zS0, zS1, zTn, Nat.reduceAdd, Nat.reduceMul, Int.reduceToNat, zG0, zG1, zG2, zCa, zCi, zCb, zCs, zCf, zCn, zCt, zCm, zCp])
                |
                  first
                    | (refine' HL_q rfl rfl (QV_gtr_y (Ev.tmp rfl) (Ev.tmp rfl) ?hb) ?_; case hb => omega)
                    | (refine' HL_q rfl rfl (QV_gtr_n (Ev.tmp rfl) (Ev.tmp rfl) ?hb) ?_; case hb => omega)
                    | (refine' HL_q rfl rfl (QV_gtr (Ev.tmp rfl) (Ev.tmp rfl)) ?_)
                  simp only [zS0, zS1, zTn, Nat.reduceAdd, Nat.reduceMul, Int.reduceToNat, zG0, zG1, zG2, zCa, zCi, zCb, zCs, zCf, zCn, zCt, zCm, zCp]
              refine' HL_q rfl rfl (QV_pick (Ev.tmp rfl) Ev.const (Ev.tmp rfl)) ?_
              simp only [if_true, if_false, Bool.false_eq_true, reduceIte, zS0, zS1, zTn, Nat.reduceAdd, Nat.reduceMul, Int.reduceToNat, zG0, zG1, zG2, zCa, zCi, zCb, zCs, zCf, zCn, zCt, zCm, zCp]
              refine' HL_q rfl rfl (QV_move (Ev.tmp rfl)) ?_
              simp only [zS0, zS1, zTn, Nat.reduceAdd, Nat.reduceMul, Int.reduceToNat, zG0, zG1, zG2, zCa, zCi, zCb, zCs, zCf, zCn, zCt, zCm, zCp]
              first
                | (refine HL_skip rfl ?_; simp only [zS0, zS1, zTn, Nat.reduceAdd, Nat.reduceMul, Int.reduceToNat, zG0, zG1, zG2, zCa, zCi, zCb, zCs, zCf, zCn, zCt, zCm, zCp])
                |
                  refine' HL_q rfl rfl (QV_field (Ev.tmp rfl) (fld67_1 _ _)) ?_
                  simp only [zS0, zS1, zTn, Nat.reduceAdd, Nat.reduceMul, Int.reduceToNat, zG0, zG1, zG2, zCa, zCi, zCb, zCs, zCf, zCn, zCt, zCm, zCp]
              first
                | (refine HL_skip rfl ?_; simp only [zS0, zS1, zTn, Nat.reduceAdd, Nat.reduceMul, Int.reduceToNat, zG0, zG1, zG2, zCa, zCi, zCb, zCs, zCf, zCn, zCt, zCm, zCp])
                |
                  first
                    | (refine' HL_q rfl rfl (QV_load1 (Ev.tmp rfl) Try.isAgg30 ?hm ?hv) ?_; (case hm => (repeat (first | exact List.Mem.head _ | assumption | apply List.Mem.tail))); (case hv => (first | rfl | assumption)))
                    | (refine' HL_q rfl rfl (QV_loadR (Ev.tmp rfl) ?hp Try.isAgg30 ?hs ?hv) ?_; (case hs => (first | assumption | (refine' Sl.sub (by assumption) ?_; (repeat (first | with_reducible exact List.Sublist.refl _ | with_reducible exact List.nil_sublist _ | with_reducible apply List.Sublist.cons_cons | with_reducible apply List.Sublist.cons))))); (case hv => (first  | rfl | assumption)); (case hp => (first | rfl | omega)))
                  simp only [zS0, zS1, zTn, Nat.reduceAdd, Nat.reduceMul, Int.reduceToNat, zG0, zG1, zG2, zCa, zCi, zCb, zCs, zCf, zCn, zCt, zCm, zCp]
              first
                | (refine HL_skip rfl ?_; simp only [zS0, zS1, zTn, Nat.reduceAdd, Nat.reduceMul, Int.reduceToNat, zG0, zG1, zG2, zCa, zCi, zCb, zCs, zCf, zCn, zCt, zCm, zCp])
                |
                  first
                    | (refine' HL_q rfl rfl (QV_gtr_y (Ev.tmp rfl) Ev.const ?hb) ?_; case hb => omega)
                    | (refine' HL_q rfl rfl (QV_gtr_n (Ev.tmp rfl) Ev.const ?hb) ?_; case hb => omega)
                    | (refine' HL_q rfl rfl (QV_gtr (Ev.tmp rfl) Ev.const) ?_)
                  simp only [zS0, zS1, zTn, Nat.reduceAdd, Nat.reduceMul, Int.reduceToNat, zG0, zG1, zG2, zCa, zCi, zCb, zCs, zCf, zCn, zCt, zCm, zCp]
              refine' HL_q rfl rfl (QV_pick (Ev.tmp rfl) Ev.const (Ev.tmp rfl)) ?_
              simp only [if_true, if_false, Bool.false_eq_true, reduceIte, zS0, zS1, zTn, Nat.reduceAdd, Nat.reduceMul, Int.reduceToNat, zG0, zG1, zG2, zCa, zCi, zCb, zCs, zCf, zCn, zCt, zCm, zCp]
              refine' HL_q rfl rfl (QV_assign (Ev.tmp rfl)) ?_
              simp only [zS0, zS1, zTn, Nat.reduceAdd, Nat.reduceMul, Int.reduceToNat, zG0, zG1, zG2, zCa, zCi, zCb, zCs, zCf, zCn, zCt, zCm, zCp]
              refine HL_nil ?_
              refine hN14 _ _ ?_
              try clear hN14 N14
              refine HC_seq fun N15 hN15 => ?_
              refine HC_region ?_
              refine' HL_q rfl rfl (QV_move (Ev.tmp rfl)) ?_
              simp only [zS0, zS1, zTn, Nat.reduceAdd, Nat.reduceMul, Int.reduceToNat, zG0, zG1, zG2, zCa, zCi, zCb, zCs, zCf, zCn, zCt, zCm, zCp]
              first
                | (refine' HL_q rfl rfl (QV_eql_y (Ev.tmp rfl) Ev.const ?hb) ?_; case hb => omega)
                | (refine' HL_q rfl rfl (QV_eql_n (Ev.tmp rfl) Ev.const ?hb) ?_; case hb => omega)
                | (refine' HL_q rfl rfl (QV_eql (Ev.tmp rfl) Ev.const) ?_)
              simp only [zS0, zS1, zTn, Nat.reduceAdd, Nat.reduceMul, Int.reduceToNat, zG0, zG1, zG2, zCa, zCi, zCb, zCs, zCf, zCn, zCt, zCm, zCp]
              refine' HL_q rfl rfl (QV_move (Ev.tmp rfl)) ?_
              simp only [zS0, zS1, zTn, Nat.reduceAdd, Nat.reduceMul, Int.reduceToNat, zG0, zG1, zG2, zCa, zCi, zCb, zCs, zCf, zCn, zCt, zCm, zCp]
              refine' HL_q rfl rfl (QV_bin (Ev.tmp rfl) (Ev.tmp rfl) ?hr) ?_
              case hr => intro w; first | (go_simp; done) | (go_simp; rfl)
              simp only [zS0, zS1, zTn, Nat.reduceAdd, Nat.reduceMul, Int.reduceToNat, zG0, zG1, zG2, zCa, zCi, zCb, zCs, zCf, zCn, zCt, zCm, zCp]
              refine' HL_q rfl rfl (QV_move (Ev.tmp rfl)) ?_
              simp only [zS0, zS1, zTn, Nat.reduceAdd, Nat.reduceMul, Int.reduceToNat, zG0, zG1, zG2, zCa, zCi, zCb, zCs, zCf, zCn, zCt, zCm, zCp]
              first
                | (refine HL_skip rfl ?_; simp only [zS0, zS1, zTn, Nat.reduceAdd, Nat.reduceMul, Int.reduceToNat, zG0, zG1, zG2, zCa, zCi, zCb, zCs, zCf, zCn, zCt, zCm, zCp])
                |
                  refine' HL_q rfl rfl (QV_move (Ev.tmp rfl)) ?_
                  simp only [zS0, zS1, zTn, Nat.reduceAdd, Nat.reduceMul, Int.reduceToNat, zG0, zG1, zG2, zCa, zCi, zCb, zCs, zCf, zCn, zCt, zCm, zCp]
              first
                | (refine HL_skip rfl ?_; simp only [zS0, zS1, zTn, Nat.reduceAdd, Nat.reduceMul, Int.reduceToNat, zG0, zG1, zG2, zCa, zCi, zCb, zCs, zCf, zCn, zCt, zCm, zCp])
                |
                  first
                    | (refine' HL_q rfl rfl (QV_eql_y (Ev.tmp rfl) Ev.const ?hb) ?_; case hb => omega)
                    | (refine' HL_q rfl rfl (QV_eql_n (Ev.tmp rfl) Ev.const ?hb) ?_; case hb => omega)
                    | (refine' HL_q rfl rfl (QV_eql (Ev.tmp rfl) Ev.const) ?_)
                  simp only [zS0, zS1, zTn, Nat.reduceAdd, Nat.reduceMul, Int.reduceToNat, zG0, zG1, zG2, zCa, zCi, zCb, zCs, zCf, zCn, zCt, zCm, zCp]
              first
                | (refine HL_skip rfl ?_; simp only [zS0, zS1, zTn, Nat.reduceAdd, Nat.reduceMul, Int.reduceToNat, zG0, zG1, zG2, zCa, zCi, zCb, zCs, zCf, zCn, zCt, zCm, zCp])
                |
                  refine' HL_q rfl rfl (QV_move (Ev.tmp rfl)) ?_
                  simp only [zS0, zS1, zTn, Nat.reduceAdd, Nat.reduceMul, Int.reduceToNat, zG0, zG1, zG2, zCa, zCi, zCb, zCs, zCf, zCn, zCt, zCm, zCp]
              first
                | (refine HL_skip rfl ?_; simp only [zS0, zS1, zTn, Nat.reduceAdd, Nat.reduceMul, Int.reduceToNat, zG0, zG1, zG2, zCa, zCi, zCb, zCs, zCf, zCn, zCt, zCm, zCp])
                |
                  refine' HL_q rfl rfl (QV_bin (Ev.tmp rfl) (Ev.tmp rfl) ?hr) ?_
                  case hr => intro w; first | (go_simp; done) | (go_simp; rfl)
                  simp only [zS0, zS1, zTn, Nat.reduceAdd, Nat.reduceMul, Int.reduceToNat, zG0, zG1, zG2, zCa, zCi, zCb, zCs, zCf, zCn, zCt, zCm, zCp]
              refine' HL_q rfl rfl (QV_pick (Ev.tmp rfl) (Ev.tmp rfl) Ev.const) ?_
              simp only [if_true, if_false, Bool.false_eq_true, reduceIte, zS0, zS1, zTn, Nat.reduceAdd, Nat.reduceMul, Int.reduceToNat, zG0, zG1, zG2, zCa, zCi, zCb, zCs, zCf, zCn, zCt, zCm, zCp]
              refine' HL_q rfl rfl (QV_move (Ev.tmp rfl)) ?_
              simp only [zS0, zS1, zTn, Nat.reduceAdd, Nat.reduceMul, Int.reduceToNat, zG0, zG1, zG2, zCa, zCi, zCb, zCs, zCf, zCn, zCt, zCm, zCp]
              first
                | (refine HL_skip rfl ?_; simp only [zS0, zS1, zTn, Nat.reduceAdd, Nat.reduceMul, Int.reduceToNat, zG0, zG1, zG2, zCa, zCi, zCb, zCs, zCf, zCn, zCt, zCm, zCp])
                |
                  refine' HL_q rfl rfl (QV_move (Ev.tmp rfl)) ?_
                  simp only [zS0, zS1, zTn, Nat.reduceAdd, Nat.reduceMul, Int.reduceToNat, zG0, zG1, zG2, zCa, zCi, zCb, zCs, zCf, zCn, zCt, zCm, zCp]
              first
                | (refine HL_skip rfl ?_; simp only [zS0, zS1, zTn, Nat.reduceAdd, Nat.reduceMul, Int.reduceToNat, zG0, zG1, zG2, zCa, zCi, zCb, zCs, zCf, zCn, zCt, zCm, zCp])
                |
                  first
                    | (refine' HL_q rfl rfl (QV_eql_y (Ev.tmp rfl) Ev.const ?hb) ?_; case hb => omega)
                    | (refine' HL_q rfl rfl (QV_eql_n (Ev.tmp rfl) Ev.const ?hb) ?_; case hb => omega)
                    | (refine' HL_q rfl rfl (QV_eql (Ev.tmp rfl) Ev.const) ?_)
                  simp only [zS0, zS1, zTn, Nat.reduceAdd, Nat.reduceMul, Int.reduceToNat, zG0, zG1, zG2, zCa, zCi, zCb, zCs, zCf, zCn, zCt, zCm, zCp]
              first
                | (refine HL_skip rfl ?_; simp only [zS0, zS1, zTn, Nat.reduceAdd, Nat.reduceMul, Int.reduceToNat, zG0, zG1, zG2, zCa, zCi, zCb, zCs, zCf, zCn, zCt, zCm, zCp])
                |
                  refine' HL_q rfl rfl (QV_move (Ev.tmp rfl)) ?_
                  simp only [zS0, zS1, zTn, Nat.reduceAdd, Nat.reduceMul, Int.reduceToNat, zG0, zG1, zG2, zCa, zCi, zCb, zCs, zCf, zCn, zCt, zCm, zCp]
              first
                | (refine HL_skip rfl ?_; simp only [zS0, zS1, zTn, Nat.reduceAdd, Nat.reduceMul, Int.reduceToNat, zG0, zG1, zG2, zCa, zCi, zCb, zCs, zCf, zCn, zCt, zCm, zCp])
                |
                  refine' HL_q rfl rfl (QV_move (Ev.tmp rfl)) ?_
                  simp only [zS0, zS1, zTn, Nat.reduceAdd, Nat.reduceMul, Int.reduceToNat, zG0, zG1, zG2, zCa, zCi, zCb, zCs, zCf, zCn, zCt, zCm, zCp]
              first
                | (refine HL_skip rfl ?_; simp only [zS0, zS1, zTn, Nat.reduceAdd, Nat.reduceMul, Int.reduceToNat, zG0, zG1, zG2, zCa, zCi, zCb, zCs, zCf, zCn, zCt, zCm, zCp])
                |
                  first
                    | (refine' HL_q rfl rfl (QV_eql_y (Ev.tmp rfl) Ev.const ?hb) ?_; case hb => omega)
                    | (refine' HL_q rfl rfl (QV_eql_n (Ev.tmp rfl) Ev.const ?hb) ?_; case hb => omega)
                    | (refine' HL_q rfl rfl (QV_eql (Ev.tmp rfl) Ev.const) ?_)
                  simp only [zS0, zS1, zTn, Nat.reduceAdd, Nat.reduceMul, Int.reduceToNat, zG0, zG1, zG2, zCa, zCi, zCb, zCs, zCf, zCn, zCt, zCm, zCp]
              first
                | (refine HL_skip rfl ?_; simp only [zS0, zS1, zTn, Nat.reduceAdd, Nat.reduceMul, Int.reduceToNat, zG0, zG1, zG2, zCa, zCi, zCb, zCs, zCf, zCn, zCt, zCm, zCp])
                |
                  refine' HL_q rfl rfl (QV_pick (Ev.tmp rfl) Ev.const (Ev.tmp rfl)) ?_
                  simp only [if_true, if_false, Bool.false_eq_true, reduceIte, zS0, zS1, zTn, Nat.reduceAdd, Nat.reduceMul, Int.reduceToNat, zG0, zG1, zG2, zCa, zCi, zCb, zCs, zCf, zCn, zCt, zCm, zCp]
              first
                | (refine HL_skip rfl ?_; simp only [zS0, zS1, zTn, Nat.reduceAdd, Nat.reduceMul, Int.reduceToNat, zG0, zG1, zG2, zCa, zCi, zCb, zCs, zCf, zCn, zCt, zCm, zCp])
                |
                  refine' HL_q rfl rfl (QV_move (Ev.tmp rfl)) ?_
                  simp only [zS0, zS1, zTn, Nat.reduceAdd, Nat.reduceMul, Int.reduceToNat, zG0, zG1, zG2, zCa, zCi, zCb, zCs, zCf, zCn, zCt, zCm, zCp]
              first
                | (refine HL_skip rfl ?_; simp only [zS0, zS1, zTn, Nat.reduceAdd, Nat.reduceMul, Int.reduceToNat, zG0, zG1, zG2, zCa, zCi, zCb, zCs, zCf, zCn, zCt, zCm, zCp])
                |
                  refine' HL_q rfl rfl (QV_move (Ev.tmp rfl)) ?_
                  simp only [zS0, zS1, zTn, Nat.reduceAdd, Nat.reduceMul, Int.reduceToNat, zG0, zG1, zG2, zCa, zCi, zCb, zCs, zCf, zCn, zCt, zCm, zCp]
              first
                | (refine HL_skip rfl ?_; simp only [zS0, zS1, zTn, Nat.reduceAdd, Nat.reduceMul, Int.reduceToNat, zG0, zG1, zG2, zCa, zCi, zCb, zCs, zCf, zCn, zCt, zCm, zCp])
                |
                  first
                    | (refine' HL_q rfl rfl (QV_eql_y (Ev.tmp rfl) Ev.const ?hb) ?_; case hb => omega)
                    | (refine' HL_q rfl rfl (QV_eql_n (Ev.tmp rfl) Ev.const ?hb) ?_; case hb => omega)
                    | (refine' HL_q rfl rfl (QV_eql (Ev.tmp rfl) Ev.const) ?_)
                  simp only [zS0, zS1, zTn, Nat.reduceAdd, Nat.reduceMul, Int.reduceToNat, zG0, zG1, zG2, zCa, zCi, zCb, zCs, zCf, zCn, zCt, zCm, zCp]
              first
                | (refine HL_skip rfl ?_; simp only [zS0, zS1, zTn, Nat.reduceAdd, Nat.reduceMul, Int.reduceToNat, zG0, zG1, zG2, zCa, zCi, zCb, zCs, zCf, zCn, zCt, zCm, zCp])
                |
                  refine' HL_q rfl rfl (QV_pick (Ev.tmp rfl) Ev.const (Ev.tmp rfl)) ?_
                  simp only [if_true, if_false, Bool.false_eq_true, reduceIte, zS0, zS1, zTn, Nat.reduceAdd, Nat.reduceMul, Int.reduceToNat, zG0, zG1, zG2, zCa, zCi, zCb, zCs, zCf, zCn, zCt, zCm, zCp]
              refine' HL_q rfl rfl (QV_pick (Ev.tmp rfl) (Ev.tmp rfl) Ev.const) ?_
              simp only [if_true, if_false, Bool.false_eq_true, reduceIte, zS0, zS1, zTn, Nat.reduceAdd, Nat.reduceMul, Int.reduceToNat, zG0, zG1, zG2, zCa, zCi, zCb, zCs, zCf, zCn, zCt, zCm, zCp]
              refine' HL_q rfl rfl (QV_move (Ev.tmp rfl)) ?_
              simp only [zS0, zS1, zTn, Nat.reduceAdd, Nat.reduceMul, Int.reduceToNat, zG0, zG1, zG2, zCa, zCi, zCb, zCs, zCf, zCn, zCt, zCm, zCp]
              first
                | (refine HL_skip rfl ?_; simp only [zS0, zS1, zTn, Nat.reduceAdd, Nat.reduceMul, Int.reduceToNat, zG0, zG1, zG2, zCa, zCi, zCb, zCs, zCf, zCn, zCt, zCm, zCp])
                |
                  refine' HL_q rfl rfl (QV_move (Ev.tmp rfl)) ?_
                  simp only [zS0, zS1, zTn, Nat.reduceAdd, Nat.reduceMul, Int.reduceToNat, zG0, zG1, zG2, zCa, zCi, zCb, zCs, zCf, zCn, zCt, zCm, zCp]
              first
                | (refine HL_skip rfl ?_; simp only [zS0, zS1, zTn, Nat.reduceAdd, Nat.reduceMul, Int.reduceToNat, zG0, zG1, zG2, zCa, zCi, zCb, zCs, zCf, zCn, zCt, zCm, zCp])
                |
                  first
                    | (refine' HL_q rfl rfl (QV_eql_y (Ev.tmp rfl) Ev.const ?hb) ?_; case hb => omega)
                    | (refine' HL_q rfl rfl (QV_eql_n (Ev.tmp rfl) Ev.const ?hb) ?_; case hb => omega)
                    | (refine' HL_q rfl rfl (QV_eql (Ev.tmp rfl) Ev.const) ?_)
                  simp only [zS0, zS1, zTn, Nat.reduceAdd, Nat.reduceMul, Int.reduceToNat, zG0, zG1, zG2, zCa, zCi, zCb, zCs, zCf, zCn, zCt, zCm, zCp]
              first
                | (refine HL_skip rfl ?_; simp only [zS0, zS1, zTn, Nat.reduceAdd, Nat.reduceMul, Int.reduceToNat, zG0, zG1, zG2, zCa, zCi, zCb, zCs, zCf, zCn, zCt, zCm, zCp])
                |
                  refine' HL_q rfl rfl (QV_move (Ev.tmp rfl)) ?_
                  simp only [zS0, zS1, zTn, Nat.reduceAdd, Nat.reduceMul, Int.reduceToNat, zG0, zG1, zG2, zCa, zCi, zCb, zCs, zCf, zCn, zCt, zCm, zCp]
              first
                | (refine HL_skip rfl ?_; simp only [zS0, zS1, zTn, Nat.reduceAdd, Nat.reduceMul, Int.reduceToNat, zG0, zG1, zG2, zCa, zCi, zCb, zCs, zCf, zCn, zCt, zCm, zCp])
                |
                  refine' HL_q rfl rfl (QV_move (Ev.tmp rfl)) ?_
                  simp only [zS0, zS1, zTn, Nat.reduceAdd, Nat.reduceMul, Int.reduceToNat, zG0, zG1, zG2, zCa, zCi, zCb, zCs, zCf, zCn, zCt, zCm, zCp]
              first
                | (refine HL_skip rfl ?_; simp only [zS0, zS1, zTn, Nat.reduceAdd, Nat.reduceMul, Int.reduceToNat, zG0, zG1, zG2, zCa, zCi, zCb, zCs, zCf, zCn, zCt, zCm, zCp])
                |
                  first
                    | (refine' HL_q rfl rfl (QV_eql_y (Ev.tmp rfl) Ev.const ?hb) ?_; case hb => omega)
                    | (refine' HL_q rfl rfl (QV_eql_n (Ev.tmp rfl) Ev.const ?hb) ?_; case hb => omega)
                    | (refine' HL_q rfl rfl (QV_eql (Ev.tmp rfl) Ev.const) ?_)
                  simp only [zS0, zS1, zTn, Nat.reduceAdd, Nat.reduceMul, Int.reduceToNat, zG0, zG1, zG2, zCa, zCi, zCb, zCs, zCf, zCn, zCt, zCm, zCp]
              first
                | (refine HL_skip rfl ?_; simp only [zS0, zS1, zTn, Nat.reduceAdd, Nat.reduceMul, Int.reduceToNat, zG0, zG1, zG2, zCa, zCi, zCb, zCs, zCf, zCn, zCt, zCm, zCp])
                |
                  refine' HL_q rfl rfl (QV_pick (Ev.tmp rfl) Ev.const (Ev.tmp rfl)) ?_
                  simp only [if_true, if_false, Bool.false_eq_true, reduceIte, zS0, zS1, zTn, Nat.reduceAdd, Nat.reduceMul, Int.reduceToNat, zG0, zG1, zG2, zCa, zCi, zCb, zCs, zCf, zCn, zCt, zCm, zCp]
              first
                | (refine HL_skip rfl ?_; simp only [zS0, zS1, zTn, Nat.reduceAdd, Nat.reduceMul, Int.reduceToNat, zG0, zG1, zG2, zCa, zCi, zCb, zCs, zCf, zCn, zCt, zCm, zCp])
                |
                  refine' HL_q rfl rfl (QV_move (Ev.tmp rfl)) ?_
                  simp only [zS0, zS1, zTn, Nat.reduceAdd, Nat.reduceMul, Int.reduceToNat, zG0, zG1, zG2, zCa, zCi, zCb, zCs, zCf, zCn, zCt, zCm, zCp]
              first
                | (refine HL_skip rfl ?_; simp only [zS0, zS1, zTn, Nat.reduceAdd, Nat.reduceMul, Int.reduceToNat, zG0, zG1, zG2, zCa, zCi, zCb, zCs, zCf, zCn, zCt, zCm, zCp])
                |
                  refine' HL_q rfl rfl (QV_move (Ev.tmp rfl)) ?_
                  simp only [zS0, zS1, zTn, Nat.reduceAdd, Nat.reduceMul, Int.reduceToNat, zG0, zG1, zG2, zCa, zCi, zCb, zCs, zCf, zCn, zCt, zCm, zCp]
              first
                | (refine HL_skip rfl ?_; simp only [zS0, zS1, zTn, Nat.reduceAdd, Nat.reduceMul, Int.reduceToNat, zG0, zG1, zG2, zCa, zCi, zCb, zCs, zCf, zCn, zCt, zCm, zCp])
                |
                  first
                    | (refine' HL_q rfl rfl (QV_eql_y (Ev.tmp rfl) Ev.const ?hb) ?_; case hb => omega)
                    | (refine' HL_q rfl rfl (QV_eql_n (Ev.tmp rfl) Ev.const ?hb) ?_; case hb => omega)
                    | (refine' HL_q rfl rfl (QV_eql (Ev.tmp rfl) Ev.const) ?_)
                  simp only [zS0, zS1, zTn, Nat.reduceAdd, Nat.reduceMul, Int.reduceToNat, zG0, zG1, zG2, zCa, zCi, zCb, zCs, zCf, zCn, zCt, zCm, zCp]
              first
                | (refine HL_skip rfl ?_; simp only [zS0, zS1, zTn, Nat.reduceAdd, Nat.reduceMul, Int.reduceToNat, zG0, zG1, zG2, zCa, zCi, zCb, zCs, zCf, zCn, zCt, zCm, zCp])
                |
                  refine' HL_q rfl rfl (QV_pick (Ev.tmp rfl) Ev.const (Ev.tmp rfl)) ?_
                  simp only [if_true, if_false, Bool.false_eq_true, reduceIte, zS0, zS1, zTn, Nat.reduceAdd, Nat.reduceMul, Int.reduceToNat, zG0, zG1, zG2, zCa, zCi, zCb, zCs, zCf, zCn, zCt, zCm, zCp]
              refine' HL_q rfl rfl (QV_pick (Ev.tmp rfl) (Ev.tmp rfl) Ev.const) ?_
              simp only [if_true, if_false, Bool.false_eq_true, reduceIte, zS0, zS1, zTn, Nat.reduceAdd, Nat.reduceMul, Int.reduceToNat, zG0, zG1, zG2, zCa, zCi, zCb, zCs, zCf, zCn, zCt, zCm, zCp]
              refine' HL_q rfl rfl (QV_assign (Ev.tmp rfl)) ?_
              simp only [zS0, zS1, zTn, Nat.reduceAdd, Nat.reduceMul, Int.reduceToNat, zG0, zG1, zG2, zCa, zCi, zCb, zCs, zCf, zCn, zCt, zCm, zCp]
              refine HL_nil ?_
              refine hN15 _ _ ?_
              try clear hN15 N15
              refine HC_ret ?_
              try simp only [thenK, blockK]
              refine kr _ _ ?_
              refine' Lv_tmp rfl rfl ?post ?le
              case post => exact ⟨rfl, rfl⟩
              case le => (first | with_reducible exact Le.refl | (refine Le.of ?_; (repeat (first | with_reducible exact Sp.refl | with_reducible exact Sp.nil | (apply Sp.pick; focus ((repeat (first | with_reducible exact Rm.head | with_reducible apply Rm.tail)); done)) | with_reducible refine Sp.drop ?_))))
            · skip
              refine HC_seq fun N8 hN8 => ?_
              refine HC_seq fun N9 hN9 => ?_
              refine HC_region ?_
              refine' HL_q rfl rfl (QV_move (Ev.tmp rfl)) ?_
              simp only [zS0, zS1, zTn, Nat.reduceAdd, Nat.reduceMul, Int.reduceToNat, zG0, zG1, zG2, zCa, zCi, zCb, zCs, zCf, zCn, zCt, zCm, zCp]
              first
                | (refine' HL_q rfl rfl (QV_eql_y (Ev.tmp rfl) Ev.const ?hb) ?_; case hb => omega)
                | (refine' HL_q rfl rfl (QV_eql_n (Ev.tmp rfl) Ev.const ?hb) ?_; case hb => omega)
                | (refine' HL_q rfl rfl (QV_eql (Ev.tmp rfl) Ev.const) ?_)
              simp only [zS0, zS1, zTn, Nat.reduceAdd, Nat.reduceMul, Int.reduceToNat, zG0, zG1, zG2, zCa, zCi, zCb, zCs, zCf, zCn, zCt, zCm, zCp]
              refine' HL_q rfl rfl (QV_move (Ev.tmp rfl)) ?_
              simp only [zS0, zS1, zTn, Nat.reduceAdd, Nat.reduceMul, Int.reduceToNat, zG0, zG1, zG2, zCa, zCi, zCb, zCs, zCf, zCn, zCt, zCm, zCp]
              first
                | (refine HL_skip rfl ?_; simp only [zS0, zS1, zTn, Nat.reduceAdd, Nat.reduceMul, Int.reduceToNat, zG0, zG1, zG2, zCa, zCi, zCb, zCs, zCf, zCn, zCt, zCm, zCp])
                |
                  refine' HL_q rfl rfl (QV_move (Ev.tmp rfl)) ?_
                  simp only [zS0, zS1, zTn, Nat.reduceAdd, Nat.reduceMul, Int.reduceToNat, zG0, zG1, zG2, zCa, zCi, zCb, zCs, zCf, zCn, zCt, zCm, zCp]
              first
                | (refine HL_skip rfl ?_; simp only [zS0, zS1, zTn, Nat.reduceAdd, Nat.reduceMul, Int.reduceToNat, zG0, zG1, zG2, zCa, zCi, zCb, zCs, zCf, zCn, zCt, zCm, zCp])
                |
                  refine' HL_call rfl en45 (call_fn (EvL.cons (Ev.tmp rfl) EvL.nil).evs) ((check_calls (l := o1) (hl1.sub (by (repeat (first | with_reducible exact List.Sublist.refl _ | with_reducible exact List.nil_sublist _ | with_reducible apply List.Sublist.cons_cons | with_reducible apply List.Sublist.cons)))) (wide_of k1) (canon_long ⟨k1, h1⟩))) ?_
                  rintro _ _ ⟨b, rfl, hb, rfl⟩
                  obtain rfl : b = true := hb.2 ⟨k1, h1⟩
                  simp only [zS0, zS1, zTn, Nat.reduceAdd, Nat.reduceMul, Int.reduceToNat, zG0, zG1, zG2, zCa, zCi, zCb, zCs, zCf, zCn, zCt, zCm, zCp]
              first
                | (refine HL_skip rfl ?_; simp only [zS0, zS1, zTn, Nat.reduceAdd, Nat.reduceMul, Int.reduceToNat, zG0, zG1, zG2, zCa, zCi, zCb, zCs, zCf, zCn, zCt, zCm, zCp])
                |
                  refine' HL_q rfl rfl (QV_un (Ev.tmp rfl) ?hr) ?_
                  case hr => intro w; first | (go_simp; done) | (go_simp; rfl)
                  simp only [zS0, zS1, zTn, Nat.reduceAdd, Nat.reduceMul, Int.reduceToNat, zG0, zG1, zG2, zCa, zCi, zCb, zCs, zCf, zCn, zCt, zCm, zCp]
              first
                | (refine HL_skip rfl ?_; simp only [zS0, zS1, zTn, Nat.reduceAdd, Nat.reduceMul, Int.reduceToNat, zG0, zG1, zG2, zCa, zCi, zCb, zCs, zCf, zCn, zCt, zCm, zCp])
                |
                  refine' HL_q rfl rfl (QV_move (Ev.tmp rfl)) ?_
                  simp only [zS0, zS1, zTn, Nat.reduceAdd, Nat.reduceMul, Int.reduceToNat, zG0, zG1, zG2, zCa, zCi, zCb, zCs, zCf, zCn, zCt, zCm, zCp]
              first
                | (refine HL_skip rfl ?_; simp only [zS0, zS1, zTn, Nat.reduceAdd, Nat.reduceMul, Int.reduceToNat, zG0, zG1, zG2, zCa, zCi, zCb, zCs, zCf, zCn, zCt, zCm, zCp])
                |
                  refine' HL_q rfl rfl (QV_move (Ev.tmp rfl)) ?_
                  simp only [zS0, zS1, zTn, Nat.reduceAdd, Nat.reduceMul, Int.reduceToNat, zG0, zG1, zG2, zCa, zCi, zCb, zCs, zCf, zCn, zCt, zCm, zCp]
              first
                | (refine HL_skip rfl ?_; simp only [zS0, zS1, zTn, Nat.reduceAdd, Nat.reduceMul, Int.reduceToNat, zG0, zG1, zG2, zCa, zCi, zCb, zCs, zCf, zCn, zCt, zCm, zCp])
                |
                  refine' HL_q rfl rfl (QV_move (Ev.tmp rfl)) ?_
                  simp only [zS0, zS1, zTn, Nat.reduceAdd, Nat.reduceMul, Int.reduceToNat, zG0, zG1, zG2, zCa, zCi, zCb, zCs, zCf, zCn, zCt, zCm, zCp]
              first
                | (refine HL_skip rfl ?_; simp only [zS0, zS1, zTn, Nat.reduceAdd, Nat.reduceMul, Int.reduceToNat, zG0, zG1, zG2, zCa, zCi, zCb, zCs, zCf, zCn, zCt, zCm, zCp])
                |
                  refine' HL_call rfl en46 (call_fn (EvL.cons (Ev.tmp rfl) (EvL.cons (Ev.tmp rfl) EvL.nil)).evs) ((has_calls (l := o1) (n := n) (hl1.sub (by (repeat (first | with_reducible exact List.Sublist.refl _ | with_reducible exact List.nil_sublist _ | with_reducible apply List.Sublist.cons_cons | with_reducible apply List.Sublist.cons)))) (canon_long ⟨k1, h1⟩))) ?_
                  rintro _ _ ⟨rfl, rfl⟩
                  simp only [zS0, zS1, zTn, Nat.reduceAdd, Nat.reduceMul, Int.reduceToNat, zG0, zG1, zG2, zCa, zCi, zCb, zCs, zCf, zCn, zCt, zCm, zCp]
              first
                | (refine HL_skip rfl ?_; simp only [zS0, zS1, zTn, Nat.reduceAdd, Nat.reduceMul, Int.reduceToNat, zG0, zG1, zG2, zCa, zCi, zCb, zCs, zCf, zCn, zCt, zCm, zCp])
                |
                  refine' HL_q rfl rfl (QV_move (Ev.tmp rfl)) ?_
                  simp only [zS0, zS1, zTn, Nat.reduceAdd, Nat.reduceMul, Int.reduceToNat, zG0, zG1, zG2, zCa, zCi, zCb, zCs, zCf, zCn, zCt, zCm, zCp]
              first
                | (refine HL_skip rfl ?_; simp only [zS0, zS1, zTn, Nat.reduceAdd, Nat.reduceMul, Int.reduceToNat, zG0, zG1, zG2, zCa, zCi, zCb, zCs, zCf, zCn, zCt, zCm, zCp])
                |
                  refine' HL_q rfl rfl (QV_move (Ev.tmp rfl)) ?_
                  simp only [zS0, zS1, zTn, Nat.reduceAdd, Nat.reduceMul, Int.reduceToNat, zG0, zG1, zG2, zCa, zCi, zCb, zCs, zCf, zCn, zCt, zCm, zCp]
              first
                | (refine HL_skip rfl ?_; simp only [zS0, zS1, zTn, Nat.reduceAdd, Nat.reduceMul, Int.reduceToNat, zG0, zG1, zG2, zCa, zCi, zCb, zCs, zCf, zCn, zCt, zCm, zCp])
                |
                  refine' HL_q rfl rfl (QV_move (Ev.tmp rfl)) ?_
                  simp only [zS0, zS1, zTn, Nat.reduceAdd, Nat.reduceMul, Int.reduceToNat, zG0, zG1, zG2, zCa, zCi, zCb, zCs, zCf, zCn, zCt, zCm, zCp]
              first
                | (refine HL_skip rfl ?_; simp only [zS0, zS1, zTn, Nat.reduceAdd, Nat.reduceMul, Int.reduceToNat, zG0, zG1, zG2, zCa, zCi, zCb, zCs, zCf, zCn, zCt, zCm, zCp])
                |
                  refine' HL_q rfl rfl (QV_move (Ev.tmp rfl)) ?_
                  simp only [zS0, zS1, zTn, Nat.reduceAdd, Nat.reduceMul, Int.reduceToNat, zG0, zG1, zG2, zCa, zCi, zCb, zCs, zCf, zCn, zCt, zCm, zCp]
              first
                | (refine HL_skip rfl ?_; simp only [zS0, zS1, zTn, Nat.reduceAdd, Nat.reduceMul, Int.reduceToNat, zG0, zG1, zG2, zCa, zCi, zCb, zCs, zCf, zCn, zCt, zCm, zCp])
                |
                  refine' HL_call rfl en46 (call_fn (EvL.cons (Ev.tmp rfl) (EvL.cons (Ev.tmp rfl) EvL.nil)).evs) ((has_calls (l := l) (n := n) (hs' _) hl)) ?_
                  rintro _ _ ⟨rfl, rfl⟩
                  simp only [zS0, zS1, zTn, Nat.reduceAdd, Nat.reduceMul, Int.reduceToNat, zG0, zG1, zG2, zCa, zCi, zCb, zCs, zCf, zCn, zCt, zCm, zCp]
              first
                | (refine HL_skip rfl ?_; simp only [zS0, zS1, zTn, Nat.reduceAdd, Nat.reduceMul, Int.reduceToNat, zG0, zG1, zG2, zCa, zCi, zCb, zCs, zCf, zCn, zCt, zCm, zCp])
                |
                  refine' HL_q rfl rfl (QV_pick (Ev.tmp rfl) Ev.const (Ev.tmp rfl)) ?_
                  simp only [if_true, if_false, Bool.false_eq_true, reduceIte, zS0, zS1, zTn, Nat.reduceAdd, Nat.reduceMul, Int.reduceToNat, zG0, zG1, zG2, zCa, zCi, zCb, zCs, zCf, zCn, zCt, zCm, zCp]
              first
                | (refine HL_skip rfl ?_; simp only [zS0, zS1, zTn, Nat.reduceAdd, Nat.reduceMul, Int.reduceToNat, zG0, zG1, zG2, zCa, zCi, zCb, zCs, zCf, zCn, zCt, zCm, zCp])
                |
                  refine' HL_q rfl rfl (QV_bin (Ev.tmp rfl) (Ev.tmp rfl) ?hr) ?_
                  case hr => intro w; first | (go_simp; done) | (go_simp; rfl)
                  simp only [zS0, zS1, zTn, Nat.reduceAdd, Nat.reduceMul, Int.reduceToNat, zG0, zG1, zG2, zCa, zCi, zCb, zCs, zCf, zCn, zCt, zCm, zCp]
              first
                | (refine HL_skip rfl ?_; simp only [zS0, zS1, zTn, Nat.reduceAdd, Nat.reduceMul, Int.reduceToNat, zG0, zG1, zG2, zCa, zCi, zCb, zCs, zCf, zCn, zCt, zCm, zCp])
                |
                  refine' HL_q rfl rfl (QV_pick (Ev.tmp rfl) Ev.const (Ev.tmp rfl)) ?_
                  simp only [if_true, if_false, Bool.false_eq_true, reduceIte, zS0, zS1, zTn, Nat.reduceAdd, Nat.reduceMul, Int.reduceToNat, zG0, zG1, zG2, zCa, zCi, zCb, zCs, zCf, zCn, zCt, zCm, zCp]
              refine' HL_q rfl rfl (QV_pick (Ev.tmp rfl) (Ev.tmp rfl) Ev.const) ?_
              simp only [if_true, if_false, Bool.false_eq_true, reduceIte, zS0, zS1, zTn, Nat.reduceAdd, Nat.reduceMul, Int.reduceToNat, zG0, zG1, zG2, zCa, zCi, zCb, zCs, zCf, zCn, zCt, zCm, zCp]
              refine HL_nil ?_
              refine hN9 _ _ ?_
              try clear hN9 N9
              refine HC_false rfl ?_
              refine HC_skip ?_
              refine hN8 _ _ ?_
              try clear hN8 N8
              refine HC_seq fun N11 hN11 => ?_
              refine HC_seq fun N12 hN12 => ?_
              refine HC_region ?_
              refine' HL_q rfl rfl (QV_move (Ev.tmp rfl)) ?_
              simp only [zS0, zS1, zTn, Nat.reduceAdd, Nat.reduceMul, Int.reduceToNat, zG0, zG1, zG2, zCa, zCi, zCb, zCs, zCf, zCn, zCt, zCm, zCp]
              first
                | (refine' HL_q rfl rfl (QV_eql_y (Ev.tmp rfl) Ev.const ?hb) ?_; case hb => omega)
                | (refine' HL_q rfl rfl (QV_eql_n (Ev.tmp rfl) Ev.const ?hb) ?_; case hb => omega)
                | (refine' HL_q rfl rfl (QV_eql (Ev.tmp rfl) Ev.const) ?_)
              simp only [zS0, zS1, zTn, Nat.reduceAdd, Nat.reduceMul, Int.reduceToNat, zG0, zG1, zG2, zCa, zCi, zCb, zCs, zCf, zCn, zCt, zCm, zCp]
              refine' HL_q rfl rfl (QV_move (Ev.tmp rfl)) ?_
              simp only [zS0, zS1, zTn, Nat.reduceAdd, Nat.reduceMul, Int.reduceToNat, zG0, zG1, zG2, zCa, zCi, zCb, zCs, zCf, zCn, zCt, zCm, zCp]
              first
                | (refine HL_skip rfl ?_; simp only [zS0, zS1, zTn, Nat.reduceAdd, Nat.reduceMul, Int.reduceToNat, zG0, zG1, zG2, zCa, zCi, zCb, zCs, zCf, zCn, zCt, zCm, zCp])
                |
                  refine' HL_q rfl rfl (QV_move (Ev.tmp rfl)) ?_
                  simp only [zS0, zS1, zTn, Nat.reduceAdd, Nat.reduceMul, Int.reduceToNat, zG0, zG1, zG2, zCa, zCi, zCb, zCs, zCf, zCn, zCt, zCm, zCp]
              first
                | (refine HL_skip rfl ?_; simp only [zS0, zS1, zTn, Nat.reduceAdd, Nat.reduceMul, Int.reduceToNat, zG0, zG1, zG2, zCa, zCi, zCb, zCs, zCf, zCn, zCt, zCm, zCp])
                |
                  refine' HL_call rfl en45 (call_fn (EvL.cons (Ev.tmp rfl) EvL.nil).evs) ((check_calls (l := o2) (hl2.sub (by (repeat (first | with_reducible exact List.Sublist.refl _ | with_reducible exact List.nil_sublist _ | with_reducible apply List.Sublist.cons_cons | with_reducible apply List.Sublist.cons)))) (wide_of k2) (canon_long ⟨k2, h2⟩))) ?_
                  rintro _ _ ⟨b, rfl, hb, rfl⟩
                  obtain rfl : b = true := hb.2 ⟨k2, h2⟩
                  simp only [zS0, zS1, zTn, Nat.reduceAdd, Nat.reduceMul, Int.reduceToNat, zG0, zG1, zG2, zCa, zCi, zCb, zCs, zCf, zCn, zCt, zCm, zCp]
              first
                | (refine HL_skip rfl ?_; simp only [zS0, zS1, zTn, Nat.reduceAdd, Nat.reduceMul, Int.reduceToNat, zG0, zG1, zG2, zCa, zCi, zCb, zCs, zCf, zCn, zCt, zCm, zCp])
                |
                  refine' HL_q rfl rfl (QV_un (Ev.tmp rfl) ?hr) ?_
                  case hr => intro w; first | (go_simp; done) | (go_simp; rfl)
                  simp only [zS0, zS1, zTn, Nat.reduceAdd, Nat.reduceMul, Int.reduceToNat, zG0, zG1, zG2, zCa, zCi, zCb, zCs, zCf, zCn, zCt, zCm, zCp]
              first
                | (refine HL_skip rfl ?_; simp only [zS0, zS1, zTn, Nat.reduceAdd, Nat.reduceMul, Int.reduceToNat, zG0, zG1, zG2, zCa, zCi, zCb, zCs, zCf, zCn, zCt, zCm, zCp])
                |
                  refine' HL_q rfl rfl (QV_move (Ev.tmp rfl)) ?_
                  simp only [zS0, zS1, zTn, Nat.reduceAdd, Nat.reduceMul, Int.reduceToNat, zG0, zG1, zG2, zCa, zCi, zCb, zCs, zCf, zCn, zCt, zCm, zCp]
              first
                | (refine HL_skip rfl ?_; simp only [zS0, zS1, zTn, Nat.reduceAdd, Nat.reduceMul, Int.reduceToNat, zG0, zG1, zG2, zCa, zCi, zCb, zCs, zCf, zCn, zCt, zCm, zCp])
                |
                  refine' HL_q rfl rfl (QV_move (Ev.tmp rfl)) ?_
                  simp only [zS0, zS1, zTn, Nat.reduceAdd, Nat.reduceMul, Int.reduceToNat, zG0, zG1, zG2, zCa, zCi, zCb, zCs, zCf, zCn, zCt, zCm, zCp]
              first
                | (refine HL_skip rfl ?_; simp only [zS0, zS1, zTn, Nat.reduceAdd, Nat.reduceMul, Int.reduceToNat, zG0, zG1, zG2, zCa, zCi, zCb, zCs, zCf, zCn, zCt, zCm, zCp])
                |
                  refine' HL_q rfl rfl (QV_move (Ev.tmp rfl)) ?_
                  simp only [zS0, zS1, zTn, Nat.reduceAdd, Nat.reduceMul, Int.reduceToNat, zG0, zG1, zG2, zCa, zCi, zCb, zCs, zCf, zCn, zCt, zCm, zCp]
              first
                | (refine HL_skip rfl ?_; simp only [zS0, zS1, zTn, Nat.reduceAdd, Nat.reduceMul, Int.reduceToNat, zG0, zG1, zG2, zCa, zCi, zCb, zCs, zCf, zCn, zCt, zCm, zCp])
                |
                  refine' HL_call rfl en46 (call_fn (EvL.cons (Ev.tmp rfl) (EvL.cons (Ev.tmp rfl) EvL.nil)).evs) ((has_calls (l := o2) (n := n) (hl2.sub (by (repeat (first | with_reducible exact List.Sublist.refl _ | with_reducible exact List.nil_sublist _ | with_reducible apply List.Sublist.cons_cons | with_reducible apply List.Sublist.cons)))) (canon_long ⟨k2, h2⟩))) ?_
                  rintro _ _ ⟨rfl, rfl⟩
                  simp only [zS0, zS1, zTn, Nat.reduceAdd, Nat.reduceMul, Int.reduceToNat, zG0, zG1, zG2, zCa, zCi, zCb, zCs, zCf, zCn, zCt, zCm, zCp]
              first
                | (refine HL_skip rfl ?_; simp only [zS0, zS1, zTn, Nat.reduceAdd, Nat.reduceMul, Int.reduceToNat, zG0, zG1, zG2, zCa, zCi, zCb, zCs, zCf, zCn, zCt, zCm, zCp])
                |
                  refine' HL_q rfl rfl (QV_move (Ev.tmp rfl)) ?_
                  simp only [zS0, zS1, zTn, Nat.reduceAdd, Nat.reduceMul, Int.reduceToNat, zG0, zG1, zG2, zCa, zCi, zCb, zCs, zCf, zCn, zCt, zCm, zCp]
              first
                | (refine HL_skip rfl ?_; simp only [zS0, zS1, zTn, Nat.reduceAdd, Nat.reduceMul, Int.reduceToNat, zG0, zG1, zG2, zCa, zCi, zCb, zCs, zCf, zCn, zCt, zCm, zCp])
                |
                  refine' HL_q rfl rfl (QV_un (Ev.tmp rfl) ?hr) ?_
                  case hr => intro w; first | (go_simp; done) | (go_simp; rfl)
                  simp only [zS0, zS1, zTn, Nat.reduceAdd, Nat.reduceMul, Int.reduceToNat, zG0, zG1, zG2, zCa, zCi, zCb, zCs, zCf, zCn, zCt, zCm, zCp]
              first
                | (refine HL_skip rfl ?_; simp only [zS0, zS1, zTn, Nat.reduceAdd, Nat.reduceMul, Int.reduceToNat, zG0, zG1, zG2, zCa, zCi, zCb, zCs, zCf, zCn, zCt, zCm, zCp])
                |
                  refine' HL_q rfl rfl (QV_move (Ev.tmp rfl)) ?_
                  simp only [zS0, zS1, zTn, Nat.reduceAdd, Nat.reduceMul, Int.reduceToNat, zG0, zG1, zG2, zCa, zCi, zCb, zCs, zCf, zCn, zCt, zCm, zCp]
              first
                | (refine HL_skip rfl ?_; simp only [zS0, zS1, zTn, Nat.reduceAdd, Nat.reduceMul, Int.reduceToNat, zG0, zG1, zG2, zCa, zCi, zCb, zCs, zCf, zCn, zCt, zCm, zCp])
                |
                  refine' HL_q rfl rfl (QV_move (Ev.tmp rfl)) ?_
                  simp only [zS0, zS1, zTn, Nat.reduceAdd, Nat.reduceMul, Int.reduceToNat, zG0, zG1, zG2, zCa, zCi, zCb, zCs, zCf, zCn, zCt, zCm, zCp]
              first
                | (refine HL_skip rfl ?_; simp only [zS0, zS1, zTn, Nat.reduceAdd, Nat.reduceMul, Int.reduceToNat, zG0, zG1, zG2, zCa, zCi, zCb, zCs, zCf, zCn, zCt, zCm, zCp])
                |
                  refine' HL_q rfl rfl (QV_move (Ev.tmp rfl)) ?_
                  simp only [zS0, zS1, zTn, Nat.reduceAdd, Nat.reduceMul, Int.reduceToNat, zG0, zG1, zG2, zCa, zCi, zCb, zCs, zCf, zCn, zCt, zCm, zCp]
              first
                | (refine HL_skip rfl ?_; simp only [zS0, zS1, zTn, Nat.reduceAdd, Nat.reduceMul, Int.reduceToNat, zG0, zG1, zG2, zCa, zCi, zCb, zCs, zCf, zCn, zCt, zCm, zCp])
                |
                  refine' HL_call rfl en46 (call_fn (EvL.cons (Ev.tmp rfl) (EvL.cons (Ev.tmp rfl) EvL.nil)).evs) ((has_calls (l := l) (n := n) (hs' _) hl)) ?_
                  rintro _ _ ⟨rfl, rfl⟩
                  simp only [zS0, zS1, zTn, Nat.reduceAdd, Nat.reduceMul, Int.reduceToNat, zG0, zG1, zG2, zCa, zCi, zCb, zCs, zCf, zCn, zCt, zCm, zCp]
              first
                | (refine HL_skip rfl ?_; simp only [zS0, zS1, zTn, Nat.reduceAdd, Nat.reduceMul, Int.reduceToNat, zG0, zG1, zG2, zCa, zCi, zCb, zCs, zCf, zCn, zCt, zCm, zCp])
                |
                  refine' HL_q rfl rfl (QV_pick (Ev.tmp rfl) (Ev.tmp rfl) Ev.const) ?_
                  simp only [if_true, if_false, Bool.false_eq_true, reduceIte, zS0, zS1, zTn, Nat.reduceAdd, Nat.reduceMul, Int.reduceToNat, zG0, zG1, zG2, zCa, zCi, zCb, zCs, zCf, zCn, zCt, zCm, zCp]
              first
                | (refine HL_skip rfl ?_; simp only [zS0, zS1, zTn, Nat.reduceAdd, Nat.reduceMul, Int.reduceToNat, zG0, zG1, zG2, zCa, zCi, zCb, zCs, zCf, zCn, zCt, zCm, zCp])
                |
                  refine' HL_q rfl rfl (QV_bin (Ev.tmp rfl) (Ev.tmp rfl) ?hr) ?_
                  case hr => intro w; first | (go_simp; done) | (go_simp; rfl)
                  simp only [zS0, zS1, zTn, Nat.reduceAdd, Nat.reduceMul, Int.reduceToNat, zG0, zG1, zG2, zCa, zCi, zCb, zCs, zCf, zCn, zCt, zCm, zCp]
              first
                | (refine HL_skip rfl ?_; simp only [zS0, zS1, zTn, Nat.reduceAdd, Nat.reduceMul, Int.reduceToNat, zG0, zG1, zG2, zCa, zCi, zCb, zCs, zCf, zCn, zCt, zCm, zCp])
                |
                  refine' HL_q rfl rfl (QV_pick (Ev.tmp rfl) Ev.const (Ev.tmp rfl)) ?_
                  simp only [if_true, if_false, Bool.false_eq_true, reduceIte, zS0, zS1, zTn, Nat.reduceAdd, Nat.reduceMul, Int.reduceToNat, zG0, zG1, zG2, zCa, zCi, zCb, zCs, zCf, zCn, zCt, zCm, zCp]
              refine' HL_q rfl rfl (QV_pick (Ev.tmp rfl) (Ev.tmp rfl) Ev.const) ?_
              simp only [if_true, if_false, Bool.false_eq_true, reduceIte, zS0, zS1, zTn, Nat.reduceAdd, Nat.reduceMul, Int.reduceToNat, zG0, zG1, zG2, zCa, zCi, zCb, zCs, zCf, zCn, zCt, zCm, zCp]
              refine HL_nil ?_
              refine hN12 _ _ ?_
              try clear hN12 N12
              refine HC_false rfl ?_
              refine HC_skip ?_
              refine hN11 _ _ ?_
              try clear hN11 N11
              refine HC_seq fun N14 hN14 => ?_
              refine HC_region ?_
              refine' HL_q rfl rfl (QV_move (Ev.tmp rfl)) ?_
              simp only [zS0, zS1, zTn, Nat.reduceAdd, Nat.reduceMul, Int.reduceToNat, zG0, zG1, zG2, zCa, zCi, zCb, zCs, zCf, zCn, zCt, zCm, zCp]
              -- operation 1
              refine' HL_call rfl en45 (call_fn (EvL.cons (Ev.tmp rfl) EvL.nil).evs) ((check_calls (hs' _) hw hl)) ?_
              rintro _ _ ⟨b, rfl, hb, rfl⟩
              obtain rfl : b = true := hb.2 c1
              simp only [zS0, zS1, zTn, Nat.reduceAdd, Nat.reduceMul, Int.reduceToNat, zG0, zG1, zG2, zCa, zCi, zCb, zCs, zCf, zCn, zCt, zCm, zCp]
              refine' HL_q rfl rfl (QV_un (Ev.tmp rfl) ?hr) ?_
              case hr => intro w; first | (go_simp; done) | (go_simp; rfl)
              simp only [zS0, zS1, zTn, Nat.reduceAdd, Nat.reduceMul, Int.reduceToNat, zG0, zG1, zG2, zCa, zCi, zCb, zCs, zCf, zCn, zCt, zCm, zCp]
              refine' HL_q rfl rfl (QV_move (Ev.tmp rfl)) ?_
              simp only [zS0, zS1, zTn, Nat.reduceAdd, Nat.reduceMul, Int.reduceToNat, zG0, zG1, zG2, zCa, zCi, zCb, zCs, zCf, zCn, zCt, zCm, zCp]
              first
                | (refine HL_skip rfl ?_; simp only [zS0, zS1, zTn, Nat.reduceAdd, Nat.reduceMul, Int.reduceToNat, zG0, zG1, zG2, zCa, zCi, zCb, zCs, zCf, zCn, zCt, zCm, zCp])
                |
                  refine' HL_q rfl rfl (QV_field (Ev.tmp rfl) (fld67_0 _ _)) ?_
                  simp only [zS0, zS1, zTn, Nat.reduceAdd, Nat.reduceMul, Int.reduceToNat, zG0, zG1, zG2, zCa, zCi, zCb, zCs, zCf, zCn, zCt, zCm, zCp]
              first
                | (refine HL_skip rfl ?_; simp only [zS0, zS1, zTn, Nat.reduceAdd, Nat.reduceMul, Int.reduceToNat, zG0, zG1, zG2, zCa, zCi, zCb, zCs, zCf, zCn, zCt, zCm, zCp])
                |
                  first
                    | (refine' HL_q rfl rfl (QV_load1 (Ev.tmp rfl) Try.isAgg30 ?hm ?hv) ?_; (case hm => (repeat (first | exact List.Mem.head _ | assumption | apply List.Mem.tail))); (case hv => (first | rfl | assumption)))
                    | (refine' HL_q rfl rfl (QV_loadR (Ev.tmp rfl) ?hp Try.isAgg30 ?hs ?hv) ?_; (case hs => (first | assumption | (refine' Sl.sub (by assumption) ?_; (repeat (first | with_reducible exact List.Sublist.refl _ | with_reducible exact List.nil_sublist _ | with_reducible apply List.Sublist.cons_cons | with_reducible apply List.Sublist.cons))))); (case hv => (first  | rfl | assumption)); (case hp => (first | rfl | omega)))
                  simp only [zS0, zS1, zTn, Nat.reduceAdd, Nat.reduceMul, Int.reduceToNat, zG0, zG1, zG2, zCa, zCi, zCb, zCs, zCf, zCn, zCt, zCm, zCp]
              first
                | (refine HL_skip rfl ?_; simp only [zS0, zS1, zTn, Nat.reduceAdd, Nat.reduceMul, Int.reduceToNat, zG0, zG1, zG2, zCa, zCi, zCb, zCs, zCf, zCn, zCt, zCm, zCp])
                |
                  refine' HL_q rfl rfl (QV_field (Ev.tmp rfl) (fld67_1 _ _)) ?_
                  simp only [zS0, zS1, zTn, Nat.reduceAdd, Nat.reduceMul, Int.reduceToNat, zG0, zG1, zG2, zCa, zCi, zCb, zCs, zCf, zCn, zCt, zCm, zCp]
              first
                | (refine HL_skip rfl ?_; simp only [zS0, zS1, zTn, Nat.reduceAdd, Nat.reduceMul, Int.reduceToNat, zG0, zG1, zG2, zCa, zCi, zCb, zCs, zCf, zCn, zCt, zCm, zCp])
                |
                  first
                    | (refine' HL_q rfl rfl (QV_load1 (Ev.tmp rfl) Try.isAgg30 ?hm ?hv) ?_; (case hm => (repeat (first | exact List.Mem.head _ | assumption | apply List.Mem.tail))); (case hv => (first | rfl | assumption)))
                    | (refine' HL_q rfl rfl (QV_loadR (Ev.tmp rfl) ?hp Try.isAgg30 ?hs ?hv) ?_; (case hs => (first | assumption | (refine' Sl.sub (by assumption) ?_; (repeat (first | with_reducible exact List.Sublist.refl _ | with_reducible exact List.nil_sublist _ | with_reducible apply List.Sublist.cons_cons | with_reducible apply List.Sublist.cons))))); (case hv => (first  | rfl | assumption)); (case hp => (first | rfl | omega)))
                  simp only [zS0, zS1, zTn, Nat.reduceAdd, Nat.reduceMul, Int.reduceToNat, zG0, zG1, zG2, zCa, zCi, zCb, zCs, zCf, zCn, zCt, zCm, zCp]
              first
                | (refine HL_skip rfl ?_; simp only [zS0, zS1, zTn, Nat.reduceAdd, Nat.reduceMul, Int.reduceToNat, zG0, zG1, zG2, zCa, zCi, zCb, zCs, zCf, zCn, zCt, zCm, zCp])
                |
                  first
                    | (refine' HL_q rfl rfl (QV_gtr_y (Ev.tmp rfl) (Ev.tmp rfl) ?hb) ?_; case hb => omega)
                    | (refine' HL_q rfl rfl (QV_gtr_n (Ev.tmp rfl) (Ev.tmp rfl) ?hb) ?_; case hb => omega)
                    | (refine' HL_q rfl rfl (QV_gtr (Ev.tmp rfl) (Ev.tmp rfl)) ?_)
                  simp only [zS0, zS1, zTn, Nat.reduceAdd, Nat.reduceMul, Int.reduceToNat, zG0, zG1, zG2, zCa, zCi, zCb, zCs, zCf, zCn, zCt, zCm, zCp]
              refine' HL_q rfl rfl (QV_pick (Ev.tmp rfl) Ev.const (Ev.tmp rfl)) ?_
              simp only [if_true, if_false, Bool.false_eq_true, reduceIte, zS0, zS1, zTn, Nat.reduceAdd, Nat.reduceMul, Int.reduceToNat, zG0, zG1, zG2, zCa, zCi, zCb, zCs, zCf, zCn, zCt, zCm, zCp]
              refine' HL_q rfl rfl (QV_move (Ev.tmp rfl)) ?_
              simp only [zS0, zS1, zTn, Nat.reduceAdd, Nat.reduceMul, Int.reduceToNat, zG0, zG1, zG2, zCa, zCi, zCb, zCs, zCf, zCn, zCt, zCm, zCp]
              first
                | (refine HL_skip rfl ?_; simp only [zS0, zS1, zTn, Nat.reduceAdd, Nat.reduceMul, Int.reduceToNat, zG0, zG1, zG2, zCa, zCi, zCb, zCs, zCf, zCn, zCt, zCm, zCp])
                |
                  refine' HL_q rfl rfl (QV_field (Ev.tmp rfl) (fld67_1 _ _)) ?_
                  simp only [zS0, zS1, zTn, Nat.reduceAdd, Nat.reduceMul, Int.reduceToNat, zG0, zG1, zG2, zCa, zCi, zCb, zCs, zCf, zCn, zCt, zCm, zCp]
              first
                | (refine HL_skip rfl ?_; simp only [zS0, zS1, zTn, Nat.reduceAdd, Nat.reduceMul, Int.reduceToNat, zG0, zG1, zG2, zCa, zCi, zCb, zCs, zCf, zCn, zCt, zCm, zCp])
                |
                  first
                    | (refine' HL_q rfl rfl (QV_load1 (Ev.tmp rfl) Try.isAgg30 ?hm ?hv) ?_; (case hm => (repeat (first | exact List.Mem.head _ | assumption | apply List.Mem.tail))); (case hv => (first | rfl | assumption)))
                    | (refine' HL_q rfl rfl (QV_loadR (Ev.tmp rfl) ?hp Try.isAgg30 ?hs ?hv) ?_; (case hs => (first | assumption | (refine' Sl.sub (by assumption) ?_; (repeat (first | with_reducible exact List.Sublist.refl _ | with_reducible exact List.nil_sublist _ | with_reducible apply List.Sublist.cons_cons | with_reducible apply List.Sublist.cons))))); (case hv => (first  | rfl | assumption)); (case hp => (first | rfl | omega)))
                  simp only [zS0, zS1, zTn, Nat.reduceAdd, Nat.reduceMul, Int.reduceToNat, zG0, zG1, zG2, zCa, zCi, zCb, zCs, zCf, zCn, zCt, zCm, zCp]
              first
                | (refine HL_skip rfl ?_; simp only [zS0, zS1, zTn, Nat.reduceAdd, Nat.reduceMul, Int.reduceToNat, zG0, zG1, zG2, zCa, zCi, zCb, zCs, zCf, zCn, zCt, zCm, zCp])
                |
                  first
                    | (refine' HL_q rfl rfl (QV_gtr_y (Ev.tmp rfl) Ev.const ?hb) ?_; case hb => omega)
                    | (refine' HL_q rfl rfl (QV_gtr_n (Ev.tmp rfl) Ev.const ?hb) ?_; case hb => omega)
                    | (refine' HL_q rfl rfl (QV_gtr (Ev.tmp rfl) Ev.const) ?_)
                  simp only [zS0, zS1, zTn, Nat.reduceAdd, Nat.reduceMul, Int.reduceToNat, zG0, zG1, zG2, zCa, zCi, zCb, zCs, zCf, zCn, zCt, zCm, zCp]
              refine' HL_q rfl rfl (QV_pick (Ev.tmp rfl) Ev.const (Ev.tmp rfl)) ?_
              simp only [if_true, if_false, Bool.false_eq_true, reduceIte, zS0, zS1, zTn, Nat.reduceAdd, Nat.reduceMul, Int.reduceToNat, zG0, zG1, zG2, zCa, zCi, zCb, zCs, zCf, zCn, zCt, zCm, zCp]
              refine' HL_q rfl rfl (QV_assign (Ev.tmp rfl)) ?_
              simp only [zS0, zS1, zTn, Nat.reduceAdd, Nat.reduceMul, Int.reduceToNat, zG0, zG1, zG2, zCa, zCi, zCb, zCs, zCf, zCn, zCt, zCm, zCp]
              refine HL_nil ?_
              refine hN14 _ _ ?_
              try clear hN14 N14
              refine HC_seq fun N15 hN15 => ?_
              refine HC_region ?_
              refine' HL_q rfl rfl (QV_move (Ev.tmp rfl)) ?_
              simp only [zS0, zS1, zTn, Nat.reduceAdd, Nat.reduceMul, Int.reduceToNat, zG0, zG1, zG2, zCa, zCi, zCb, zCs, zCf, zCn, zCt, zCm, zCp]
              first
                | (refine' HL_q rfl rfl (QV_eql_y (Ev.tmp rfl) Ev.const ?hb) ?_; case hb => omega)
                | (refine' HL_q rfl rfl (QV_eql_n (Ev.tmp rfl) Ev.const ?hb) ?_; case hb => omega)
                | (refine' HL_q rfl rfl (QV_eql (Ev.tmp rfl) Ev.const) ?_)
              simp only [zS0, zS1, zTn, Nat.reduceAdd, Nat.reduceMul, Int.reduceToNat, zG0, zG1, zG2, zCa, zCi, zCb, zCs, zCf, zCn, zCt, zCm, zCp]
              refine' HL_q rfl rfl (QV_move (Ev.tmp rfl)) ?_
              simp only [zS0, zS1, zTn, Nat.reduceAdd, Nat.reduceMul, Int.reduceToNat, zG0, zG1, zG2, zCa, zCi, zCb, zCs, zCf, zCn, zCt, zCm, zCp]
              refine' HL_q rfl rfl (QV_bin (Ev.tmp rfl) (Ev.tmp rfl) ?hr) ?_
              case hr => intro w; first | (go_simp; done) | (go_simp; rfl)
              simp only [zS0, zS1, zTn, Nat.reduceAdd, Nat.reduceMul, Int.reduceToNat, zG0, zG1, zG2, zCa, zCi, zCb, zCs, zCf, zCn, zCt, zCm, zCp]
              refine' HL_q rfl rfl (QV_move (Ev.tmp rfl)) ?_
              simp only [zS0, zS1, zTn, Nat.reduceAdd, Nat.reduceMul, Int.reduceToNat, zG0, zG1, zG2, zCa, zCi, zCb, zCs, zCf, zCn, zCt, zCm, zCp]
              first
                | (refine HL_skip rfl ?_; simp only [zS0, zS1, zTn, Nat.reduceAdd, Nat.reduceMul, Int.reduceToNat, zG0, zG1, zG2, zCa, zCi, zCb, zCs, zCf, zCn, zCt, zCm, zCp])
                |
                  refine' HL_q rfl rfl (QV_move (Ev.tmp rfl)) ?_
                  simp only [zS0, zS1, zTn, Nat.reduceAdd, Nat.reduceMul, Int.reduceToNat, zG0, zG1, zG2, zCa, zCi, zCb, zCs, zCf, zCn, zCt, zCm, zCp]
              first
                | (refine HL_skip rfl ?_; simp only [zS0, zS1, zTn, Nat.reduceAdd, Nat.reduceMul, Int.reduceToNat, zG0, zG1, zG2, zCa, zCi, zCb, zCs, zCf, zCn, zCt, zCm, zCp])
                |
                  first
                    | (refine' HL_q rfl rfl (QV_eql_y (Ev.tmp rfl) Ev.const ?hb) ?_; case hb => omega)
                    | (refine' HL_q rfl rfl (QV_eql_n (Ev.tmp rfl) Ev.const ?hb) ?_; case hb => omega)
                    | (refine' HL_q rfl rfl (QV_eql (Ev.tmp rfl) Ev.const) ?_)
                  simp only [zS0, zS1, zTn, Nat.reduceAdd, Nat.reduceMul, Int.reduceToNat, zG0, zG1, zG2, zCa, zCi, zCb, zCs, zCf, zCn, zCt, zCm, zCp]
              first
                | (refine HL_skip rfl ?_; simp only [zS0, zS1, zTn, Nat.reduceAdd, Nat.reduceMul, Int.reduceToNat, zG0, zG1, zG2, zCa, zCi, zCb, zCs, zCf, zCn, zCt, zCm, zCp])
                |
                  refine' HL_q rfl rfl (QV_move (Ev.tmp rfl)) ?_
                  simp only [zS0, zS1, zTn, Nat.reduceAdd, Nat.reduceMul, Int.reduceToNat, zG0, zG1, zG2, zCa, zCi, zCb, zCs, zCf, zCn, zCt, zCm, zCp]
              first
                | (refine HL_skip rfl ?_; simp only [zS0, zS1, zTn, Nat.reduceAdd, Nat.reduceMul, Int.reduceToNat, zG0, zG1, zG2, zCa, zCi, zCb, zCs, zCf, zCn, zCt, zCm, zCp])
                |
                  refine' HL_q rfl rfl (QV_bin (Ev.tmp rfl) (Ev.tmp rfl) ?hr) ?_
                  case hr => intro w; first | (go_simp; done) | (go_simp; rfl)
                  simp only [zS0, zS1, zTn, Nat.reduceAdd, Nat.reduceMul, Int.reduceToNat, zG0, zG1, zG2, zCa, zCi, zCb, zCs, zCf, zCn, zCt, zCm, zCp]
              refine' HL_q rfl rfl (QV_pick (Ev.tmp rfl) (Ev.tmp rfl) Ev.const) ?_
              simp only [if_true, if_false, Bool.false_eq_true, reduceIte, zS0, zS1, zTn, Nat.reduceAdd, Nat.reduceMul, Int.reduceToNat, zG0, zG1, zG2, zCa, zCi, zCb, zCs, zCf, zCn, zCt, zCm, zCp]
              refine' HL_q rfl rfl (QV_move (Ev.tmp rfl)) ?_
              simp only [zS0, zS1, zTn, Nat.reduceAdd, Nat.reduceMul, Int.reduceToNat, zG0, zG1, zG2, zCa, zCi, zCb, zCs, zCf, zCn, zCt, zCm, zCp]
              first
                | (refine HL_skip rfl ?_; simp only [zS0, zS1, zTn, Nat.reduceAdd, Nat.reduceMul, Int.reduceToNat, zG0, zG1, zG2, zCa, zCi, zCb, zCs, zCf, zCn, zCt, zCm, zCp])
                |
                  refine' HL_q rfl rfl (QV_move (Ev.tmp rfl)) ?_
                  simp only [zS0, zS1, zTn, Nat.reduceAdd, Nat.reduceMul, Int.reduceToNat, zG0, zG1, zG2, zCa, zCi, zCb, zCs, zCf, zCn, zCt, zCm, zCp]
              first
                | (refine HL_skip rfl ?_; simp only [zS0, zS1, zTn, Nat.reduceAdd, Nat.reduceMul, Int.reduceToNat, zG0, zG1, zG2, zCa, zCi, zCb, zCs, zCf, zCn, zCt, zCm, zCp])
                |
                  first
                    | (refine' HL_q rfl rfl (QV_eql_y (Ev.tmp rfl) Ev.const ?hb) ?_; case hb => omega)
                    | (refine' HL_q rfl rfl (QV_eql_n (Ev.tmp rfl) Ev.const ?hb) ?_; case hb => omega)
                    | (refine' HL_q rfl rfl (QV_eql (Ev.tmp rfl) Ev.const) ?_)
                  simp only [zS0, zS1, zTn, Nat.reduceAdd, Nat.reduceMul, Int.reduceToNat, zG0, zG1, zG2, zCa, zCi, zCb, zCs, zCf, zCn, zCt, zCm, zCp]
              first
                | (refine HL_skip rfl ?_; simp only [zS0, zS1, zTn, Nat.reduceAdd, Nat.reduceMul, Int.reduceToNat, zG0, zG1, zG2, zCa, zCi, zCb, zCs, zCf, zCn, zCt, zCm, zCp])
                |
                  refine' HL_q rfl rfl (QV_move (Ev.tmp rfl)) ?_
                  simp only [zS0, zS1, zTn, Nat.reduceAdd, Nat.reduceMul, Int.reduceToNat, zG0, zG1, zG2, zCa, zCi, zCb, zCs, zCf, zCn, zCt, zCm, zCp]
              first
                | (refine HL_skip rfl ?_; simp only [zS0, zS1, zTn, Nat.reduceAdd, Nat.reduceMul, Int.reduceToNat, zG0, zG1, zG2, zCa, zCi, zCb, zCs, zCf, zCn, zCt, zCm, zCp])
                |
                  refine' HL_q rfl rfl (QV_move (Ev.tmp rfl)) ?_
                  simp only [zS0, zS1, zTn, Nat.reduceAdd, Nat.reduceMul, Int.reduceToNat, zG0, zG1, zG2, zCa, zCi, zCb, zCs, zCf, zCn, zCt, zCm, zCp]
              first
                | (refine HL_skip rfl ?_; simp only [zS0, zS1, zTn, Nat.reduceAdd, Nat.reduceMul, Int.reduceToNat, zG0, zG1, zG2, zCa, zCi, zCb, zCs, zCf, zCn, zCt, zCm, zCp])
                |
                  first
                    | (refine' HL_q rfl rfl (QV_eql_y (Ev.tmp rfl) Ev.const ?hb) ?_; case hb => omega)
                    | (refine' HL_q rfl rfl (QV_eql_n (Ev.tmp rfl) Ev.const ?hb) ?_; case hb => omega)
                    | (refine' HL_q rfl rfl (QV_eql (Ev.tmp rfl) Ev.const) ?_)
                  simp only [zS0, zS1, zTn, Nat.reduceAdd, Nat.reduceMul, Int.reduceToNat, zG0, zG1, zG2, zCa, zCi, zCb, zCs, zCf, zCn, zCt, zCm, zCp]
              first
                | (refine HL_skip rfl ?_; simp only [zS0, zS1, zTn, Nat.reduceAdd, Nat.reduceMul, Int.reduceToNat, zG0, zG1, zG2, zCa, zCi, zCb, zCs, zCf, zCn, zCt, zCm, zCp])
                |
                  refine' HL_q rfl rfl (QV_pick (Ev.tmp rfl) Ev.const (Ev.tmp rfl)) ?_
                  simp only [if_true, if_false, Bool.false_eq_true, reduceIte, zS0, zS1, zTn, Nat.reduceAdd, Nat.reduceMul, Int.reduceToNat, zG0, zG1, zG2, zCa, zCi, zCb, zCs, zCf, zCn, zCt, zCm, zCp]
              first
                | (refine HL_skip rfl ?_; simp only [zS0, zS1, zTn, Nat.reduceAdd, Nat.reduceMul, Int.reduceToNat, zG0, zG1, zG2, zCa, zCi, zCb, zCs, zCf, zCn, zCt, zCm, zCp])
                |
                  refine' HL_q rfl rfl (QV_move (Ev.tmp rfl)) ?_
                  simp only [zS0, zS1, zTn, Nat.reduceAdd, Nat.reduceMul, Int.reduceToNat, zG0, zG1, zG2, zCa, zCi, zCb, zCs, zCf, zCn, zCt, zCm, zCp]
              first
                | (refine HL_skip rfl ?_; simp only [zS0, zS1, zTn, Nat.reduceAdd, Nat.reduceMul, Int.reduceToNat, zG0, zG1, zG2, zCa, zCi, zCb, zCs, zCf, zCn, zCt, zCm, zCp])
                |
                  refine' HL_q rfl rfl (QV_move (Ev.tmp rfl)) ?_
                  simp only [zS0, zS1, zTn, Nat.reduceAdd, Nat.reduceMul, Int.reduceToNat, zG0, zG1, zG2, zCa, zCi, zCb, zCs, zCf, zCn, zCt, zCm, zCp]
              first
                | (refine HL_skip rfl ?_; simp only [zS0, zS1, zTn, Nat.reduceAdd, Nat.reduceMul, Int.reduceToNat, zG0, zG1, zG2, zCa, zCi, zCb, zCs, zCf, zCn, zCt, zCm, zCp])
                |
                  first
                    | (refine' HL_q rfl rfl (QV_eql_y (Ev.tmp rfl) Ev.const ?hb) ?_; case hb => omega)
                    | (refine' HL_q rfl rfl (QV_eql_n (Ev.tmp rfl) Ev.const ?hb) ?_; case hb => omega)
                    | (refine' HL_q rfl rfl (QV_eql (Ev.tmp rfl) Ev.const) ?_)
                  simp only [zS0, zS1, zTn, Nat.reduceAdd, Nat.reduceMul, Int.reduceToNat, zG0, zG1, zG2, zCa, zCi, zCb, zCs, zCf, zCn, zCt, zCm, zCp]
              first
                | (refine HL_skip rfl ?_; simp only [zS0, zS1, zTn, Nat.reduceAdd, Nat.reduceMul, Int.reduceToNat, zG0, zG1, zG2, zCa, zCi, zCb, zCs, zCf, zCn, zCt, zCm, zCp])
                |
                  refine' HL_q rfl rfl (QV_pick (Ev.tmp rfl) Ev.const (Ev.tmp rfl)) ?_
                  simp only [if_true, if_false, Bool.false_eq_true, reduceIte, zS0, zS1, zTn, Nat.reduceAdd, Nat.reduceMul, Int.reduceToNat, zG0, zG1, zG2, zCa, zCi, zCb, zCs, zCf, zCn, zCt, zCm, zCp]
              refine' HL_q rfl rfl (QV_pick (Ev.tmp rfl) (Ev.tmp rfl) Ev.const) ?_
              simp only [if_true, if_false, Bool.false_eq_true, reduceIte, zS0, zS1, zTn, Nat.reduceAdd, Nat.reduceMul, Int.reduceToNat, zG0, zG1, zG2, zCa, zCi, zCb, zCs, zCf, zCn, zCt, zCm, zCp]
              refine' HL_q rfl rfl (QV_move (Ev.tmp rfl)) ?_
              simp only [zS0, zS1, zTn, Nat.reduceAdd, Nat.reduceMul, Int.reduceToNat, zG0, zG1, zG2, zCa, zCi, zCb, zCs, zCf, zCn, zCt, zCm, zCp]
              first
                | (refine HL_skip rfl ?_; simp only [zS0, zS1, zTn, Nat.reduceAdd, Nat.reduceMul, Int.reduceToNat, zG0, zG1, zG2, zCa, zCi, zCb, zCs, zCf, zCn, zCt, zCm, zCp])
                |
                  refine' HL_q rfl rfl (QV_move (Ev.tmp rfl)) ?_
                  simp only [zS0, zS1, zTn, Nat.reduceAdd, Nat.reduceMul, Int.reduceToNat, zG0, zG1, zG2, zCa, zCi, zCb, zCs, zCf, zCn, zCt, zCm, zCp]
              first
                | (refine HL_skip rfl ?_; simp only [zS0, zS1, zTn, Nat.reduceAdd, Nat.reduceMul, Int.reduceToNat, zG0, zG1, zG2, zCa, zCi, zCb, zCs, zCf, zCn, zCt, zCm, zCp])
                |
                  first
                    | (refine' HL_q rfl rfl (QV_eql_y (Ev.tmp rfl) Ev.const ?hb) ?_; case hb => omega)
                    | (refine' HL_q rfl rfl (QV_eql_n (Ev.tmp rfl) Ev.const ?hb) ?_; case hb => omega)
                    | (refine' HL_q rfl rfl (QV_eql (Ev.tmp rfl) Ev.const) ?_)
                  simp only [zS0, zS1, zTn, Nat.reduceAdd, Nat.reduceMul, Int.reduceToNat, zG0, zG1, zG2, zCa, zCi, zCb, zCs, zCf, zCn, zCt, zCm, zCp]
              first
                | (refine HL_skip rfl ?_; simp only [zS0, zS1, zTn, Nat.reduceAdd, Nat.reduceMul, Int.reduceToNat, zG0, zG1, zG2, zCa, zCi, zCb, zCs, zCf, zCn, zCt, zCm, zCp])
                |
                  refine' HL_q rfl rfl (QV_move (Ev.tmp rfl)) ?_
                  simp only [zS0, zS1, zTn, Nat.reduceAdd, Nat.reduceMul, Int.reduceToNat, zG0, zG1, zG2, zCa, zCi, zCb, zCs, zCf, zCn, zCt, zCm, zCp]
              first
                | (refine HL_skip rfl ?_; simp only [zS0, zS1, zTn, Nat.reduceAdd, Nat.reduceMul, Int.reduceToNat, zG0, zG1, zG2, zCa, zCi, zCb, zCs, zCf, zCn, zCt, zCm, zCp])
                |
                  refine' HL_q rfl rfl (QV_move (Ev.tmp rfl)) ?_
                  simp only [zS0, zS1, zTn, Nat.reduceAdd, Nat.reduceMul, Int.reduceToNat, zG0, zG1, zG2, zCa, zCi, zCb, zCs, zCf, zCn, zCt, zCm, zCp]
              first
                | (refine HL_skip rfl ?_; simp only [zS0, zS1, zTn, Nat.reduceAdd, Nat.reduceMul, Int.reduceToNat, zG0, zG1, zG2, zCa, zCi, zCb, zCs, zCf, zCn, zCt, zCm, zCp])
                |
                  first
                    | (refine' HL_q rfl rfl (QV_eql_y (Ev.tmp rfl) Ev.const ?hb) ?_; case hb => omega)
                    | (refine' HL_q rfl rfl (QV_eql_n (Ev.tmp rfl) Ev.const ?hb) ?_; case hb => omega)
                    | (refine' HL_q rfl rfl (QV_eql (Ev.tmp rfl) Ev.const) ?_)
                  simp only [zS0, zS1, zTn, Nat.reduceAdd, Nat.reduceMul, Int.reduceToNat, zG0, zG1, zG2, zCa, zCi, zCb, zCs, zCf, zCn, zCt, zCm, zCp]
              first
                | (refine HL_skip rfl ?_; simp only [zS0, zS1, zTn, Nat.reduceAdd, Nat.reduceMul, Int.reduceToNat, zG0, zG1, zG2, zCa, zCi, zCb, zCs, zCf, zCn, zCt, zCm, zCp])
                |
                  refine' HL_q rfl rfl (QV_pick (Ev.tmp rfl) Ev.const (Ev.tmp rfl)) ?_
                  simp only [if_true, if_false, Bool.false_eq_true, reduceIte, zS0, zS1, zTn, Nat.reduceAdd, Nat.reduceMul, Int.reduceToNat, zG0, zG1, zG2, zCa, zCi, zCb, zCs, zCf, zCn, zCt, zCm, zCp]
              first
                | (refine HL_skip rfl ?_; simp only [zS0, zS1, zTn, Nat.reduceAdd, Nat.reduceMul, Int.reduceToNat, zG0, zG1, zG2, zCa, zCi, zCb, zCs, zCf, zCn, zCt, zCm, zCp])
                |
                  refine' HL_q rfl rfl (QV_move (Ev.tmp rfl)) ?_
                  simp only [zS0, zS1, zTn, Nat.reduceAdd, Nat.reduceMul, Int.reduceToNat, zG0, zG1, zG2, zCa, zCi, zCb, zCs, zCf, zCn, zCt, zCm, zCp]
              first
                | (refine HL_skip rfl ?_; simp only [zS0, zS1, zTn, Nat.reduceAdd, Nat.reduceMul, Int.reduceToNat, zG0, zG1, zG2, zCa, zCi, zCb, zCs, zCf, zCn, zCt, zCm, zCp])
                |
                  refine' HL_q rfl rfl (QV_move (Ev.tmp rfl)) ?_
                  simp only [zS0, zS1, zTn, Nat.reduceAdd, Nat.reduceMul, Int.reduceToNat, zG0, zG1, zG2, zCa, zCi, zCb, zCs, zCf, zCn, zCt, zCm, zCp]
              first
                | (refine HL_skip rfl ?_; simp only [zS0, zS1, zTn, Nat.reduceAdd, Nat.reduceMul, Int.reduceToNat, zG0, zG1, zG2, zCa, zCi, zCb, zCs, zCf, zCn, zCt, zCm, zCp])
                |
                  first
                    | (refine' HL_q rfl rfl (QV_eql_y (Ev.tmp rfl) Ev.const ?hb) ?_; case hb => omega)
                    | (refine' HL_q rfl rfl (QV_eql_n (Ev.tmp rfl) Ev.const ?hb) ?_; case hb => omega)
                    | (refine' HL_q rfl rfl (QV_eql (Ev.tmp rfl) Ev.const) ?_)
                  simp only [zS0, zS1, zTn, Nat.reduceAdd, Nat.reduceMul, Int.reduceToNat, zG0, zG1, zG2, zCa, zCi, zCb, zCs, zCf, zCn, zCt, zCm, zCp]
              first
                | (refine HL_skip rfl ?_; simp only [zS0, zS1, zTn, Nat.reduceAdd, Nat.reduceMul, Int.reduceToNat, zG0, zG1, zG2, zCa, zCi, zCb, zCs, zCf, zCn, zCt, zCm, zCp])
                |
                  refine' HL_q rfl rfl (QV_pick (Ev.tmp rfl) Ev.const (Ev.tmp rfl)) ?_
                  simp only [if_true, if_false, Bool.false_eq_true, reduceIte, zS0, zS1, zTn, Nat.reduceAdd, Nat.reduceMul, Int.reduceToNat, zG0, zG1, zG2, zCa, zCi, zCb, zCs, zCf, zCn, zCt, zCm, zCp]
              refine' HL_q rfl rfl (QV_pick (Ev.tmp rfl) (Ev.tmp rfl) Ev.const) ?_
              simp only [if_true, if_false, Bool.false_eq_true, reduceIte, zS0, zS1, zTn, Nat.reduceAdd, Nat.reduceMul, Int.reduceToNat, zG0, zG1, zG2, zCa, zCi, zCb, zCs, zCf, zCn, zCt, zCm, zCp]
              refine' HL_q rfl rfl (QV_assign (Ev.tmp rfl)) ?_
              simp only [zS0, zS1, zTn, Nat.reduceAdd, Nat.reduceMul, Int.reduceToNat, zG0, zG1, zG2, zCa, zCi, zCb, zCs, zCf, zCn, zCt, zCm, zCp]
              refine HL_nil ?_
              refine hN15 _ _ ?_
              try clear hN15 N15
              refine HC_ret ?_
              try simp only [thenK, blockK]
              refine kr _ _ ?_
              refine' Lv_tmp rfl rfl ?post ?le
              case post => exact ⟨rfl, rfl⟩
              case le => (first | with_reducible exact Le.refl | (refine Le.of ?_; (repeat (first | with_reducible exact Sp.refl | with_reducible exact Sp.nil | (apply Sp.pick; focus ((repeat (first | with_reducible exact Rm.head | with_reducible apply Rm.tail)); done)) | with_reducible refine Sp.drop ?_))))
          · skip
            refine HC_seq fun N8 hN8 => ?_
            refine HC_seq fun N9 hN9 => ?_
            refine HC_region ?_
            refine' HL_q rfl rfl (QV_move (Ev.tmp rfl)) ?_
            simp only [zS0, zS1, zTn, Nat.reduceAdd, Nat.reduceMul, Int.reduceToNat, zG0, zG1, zG2, zCa, zCi, zCb, zCs, zCf, zCn, zCt, zCm, zCp]
            first
              | (refine' HL_q rfl rfl (QV_eql_y (Ev.tmp rfl) Ev.const ?hb) ?_; case hb => omega)
              | (refine' HL_q rfl rfl (QV_eql_n (Ev.tmp rfl) Ev.const ?hb) ?_; case hb => omega)
              | (refine' HL_q rfl rfl (QV_eql (Ev.tmp rfl) Ev.const) ?_)
            simp only [zS0, zS1, zTn, Nat.reduceAdd, Nat.reduceMul, Int.reduceToNat, zG0, zG1, zG2, zCa, zCi, zCb, zCs, zCf, zCn, zCt, zCm, zCp]
            refine' HL_q rfl rfl (QV_move (Ev.tmp rfl)) ?_
            simp only [zS0, zS1, zTn, Nat.reduceAdd, Nat.reduceMul, Int.reduceToNat, zG0, zG1, zG2, zCa, zCi, zCb, zCs, zCf, zCn, zCt, zCm, zCp]
            first
              | (refine HL_skip rfl ?_; simp only [zS0, zS1, zTn, Nat.reduceAdd, Nat.reduceMul, Int.reduceToNat, zG0, zG1, zG2, zCa, zCi, zCb, zCs, zCf, zCn, zCt, zCm, zCp])
              |
                refine' HL_q rfl rfl (QV_move (Ev.tmp rfl)) ?_
                simp only [zS0, zS1, zTn, Nat.reduceAdd, Nat.reduceMul, Int.reduceToNat, zG0, zG1, zG2, zCa, zCi, zCb, zCs, zCf, zCn, zCt, zCm, zCp]
            first
              | (refine HL_skip rfl ?_; simp only [zS0, zS1, zTn, Nat.reduceAdd, Nat.reduceMul, Int.reduceToNat, zG0, zG1, zG2, zCa, zCi, zCb, zCs, zCf, zCn, zCt, zCm, zCp])
              |
                refine' HL_call rfl en45 (call_fn (EvL.cons (Ev.tmp rfl) EvL.nil).evs) ((check_calls (l := o1) (hl1.sub (by (repeat (first | with_reducible exact List.Sublist.refl _ | with_reducible exact List.nil_sublist _ | with_reducible apply List.Sublist.cons_cons | with_reducible apply List.Sublist.cons)))) (wide_of k1) (canon_long ⟨k1, h1⟩))) ?_
                rintro _ _ ⟨b, rfl, hb, rfl⟩
                obtain rfl : b = true := hb.2 ⟨k1, h1⟩
                simp only [zS0, zS1, zTn, Nat.reduceAdd, Nat.reduceMul, Int.reduceToNat, zG0, zG1, zG2, zCa, zCi, zCb, zCs, zCf, zCn, zCt, zCm, zCp]
            first
              | (refine HL_skip rfl ?_; simp only [zS0, zS1, zTn, Nat.reduceAdd, Nat.reduceMul, Int.reduceToNat, zG0, zG1, zG2, zCa, zCi, zCb, zCs, zCf, zCn, zCt, zCm, zCp])
              |
                refine' HL_q rfl rfl (QV_un (Ev.tmp rfl) ?hr) ?_
                case hr => intro w; first | (go_simp; done) | (go_simp; rfl)
                simp only [zS0, zS1, zTn, Nat.reduceAdd, Nat.reduceMul, Int.reduceToNat, zG0, zG1, zG2, zCa, zCi, zCb, zCs, zCf, zCn, zCt, zCm, zCp]
            first
              | (refine HL_skip rfl ?_; simp only [zS0, zS1, zTn, Nat.reduceAdd, Nat.reduceMul, Int.reduceToNat, zG0, zG1, zG2, zCa, zCi, zCb, zCs, zCf, zCn, zCt, zCm, zCp])
              |
                refine' HL_q rfl rfl (QV_move (Ev.tmp rfl)) ?_
                simp only [zS0, zS1, zTn, Nat.reduceAdd, Nat.reduceMul, Int.reduceToNat, zG0, zG1, zG2, zCa, zCi, zCb, zCs, zCf, zCn, zCt, zCm, zCp]
            first
              | (refine HL_skip rfl ?_; simp only [zS0, zS1, zTn, Nat.reduceAdd, Nat.reduceMul, Int.reduceToNat, zG0, zG1, zG2, zCa, zCi, zCb, zCs, zCf, zCn, zCt, zCm, zCp])
              |
                refine' HL_q rfl rfl (QV_move (Ev.tmp rfl)) ?_
                simp only [zS0, zS1, zTn, Nat.reduceAdd, Nat.reduceMul, Int.reduceToNat, zG0, zG1, zG2, zCa, zCi, zCb, zCs, zCf, zCn, zCt, zCm, zCp]
            first
              | (refine HL_skip rfl ?_; simp only [zS0, zS1, zTn, Nat.reduceAdd, Nat.reduceMul, Int.reduceToNat, zG0, zG1, zG2, zCa, zCi, zCb, zCs, zCf, zCn, zCt, zCm, zCp])
              |
                refine' HL_q rfl rfl (QV_move (Ev.tmp rfl)) ?_
                simp only [zS0, zS1, zTn, Nat.reduceAdd, Nat.reduceMul, Int.reduceToNat, zG0, zG1, zG2, zCa, zCi, zCb, zCs, zCf, zCn, zCt, zCm, zCp]
            first
              | (refine HL_skip rfl ?_; simp only [zS0, zS1, zTn, Nat.reduceAdd, Nat.reduceMul, Int.reduceToNat, zG0, zG1, zG2, zCa, zCi, zCb, zCs, zCf, zCn, zCt, zCm, zCp])
              |
                refine' HL_call rfl en46 (call_fn (EvL.cons (Ev.tmp rfl) (EvL.cons (Ev.tmp rfl) EvL.nil)).evs) ((has_calls (l := o1) (n := n) (hl1.sub (by (repeat (first | with_reducible exact List.Sublist.refl _ | with_reducible exact List.nil_sublist _ | with_reducible apply List.Sublist.cons_cons | with_reducible apply List.Sublist.cons)))) (canon_long ⟨k1, h1⟩))) ?_
                rintro _ _ ⟨rfl, rfl⟩
                simp only [zS0, zS1, zTn, Nat.reduceAdd, Nat.reduceMul, Int.reduceToNat, zG0, zG1, zG2, zCa, zCi, zCb, zCs, zCf, zCn, zCt, zCm, zCp]
            first
              | (refine HL_skip rfl ?_; simp only [zS0, zS1, zTn, Nat.reduceAdd, Nat.reduceMul, Int.reduceToNat, zG0, zG1, zG2, zCa, zCi, zCb, zCs, zCf, zCn, zCt, zCm, zCp])
              |
                refine' HL_q rfl rfl (QV_move (Ev.tmp rfl)) ?_
                simp only [zS0, zS1, zTn, Nat.reduceAdd, Nat.reduceMul, Int.reduceToNat, zG0, zG1, zG2, zCa, zCi, zCb, zCs, zCf, zCn, zCt, zCm, zCp]
            first
              | (refine HL_skip rfl ?_; simp only [zS0, zS1, zTn, Nat.reduceAdd, Nat.reduceMul, Int.reduceToNat, zG0, zG1, zG2, zCa, zCi, zCb, zCs, zCf, zCn, zCt, zCm, zCp])
              |
                refine' HL_q rfl rfl (QV_move (Ev.tmp rfl)) ?_
                simp only [zS0, zS1, zTn, Nat.reduceAdd, Nat.reduceMul, Int.reduceToNat, zG0, zG1, zG2, zCa, zCi, zCb, zCs, zCf, zCn, zCt, zCm, zCp]
            first
              | (refine HL_skip rfl ?_; simp only [zS0, zS1, zTn, Nat.reduceAdd, Nat.reduceMul, Int.reduceToNat, zG0, zG1, zG2, zCa, zCi, zCb, zCs, zCf, zCn, zCt, zCm, zCp])
              |
                refine' HL_q rfl rfl (QV_move (Ev.tmp rfl)) ?_
                simp only [zS0, zS1, zTn, Nat.reduceAdd, Nat.reduceMul, Int.reduceToNat, zG0, zG1, zG2, zCa, zCi, zCb, zCs, zCf, zCn, zCt, zCm, zCp]
            first
              | (refine HL_skip rfl ?_; simp only [zS0, zS1, zTn, Nat.reduceAdd, Nat.reduceMul, Int.reduceToNat, zG0, zG1, zG2, zCa, zCi, zCb, zCs, zCf, zCn, zCt, zCm, zCp])
              |
                refine' HL_q rfl rfl (QV_move (Ev.tmp rfl)) ?_
                simp only [zS0, zS1, zTn, Nat.reduceAdd, Nat.reduceMul, Int.reduceToNat, zG0, zG1, zG2, zCa, zCi, zCb, zCs, zCf, zCn, zCt, zCm, zCp]
            first
              | (refine HL_skip rfl ?_; simp only [zS0, zS1, zTn, Nat.reduceAdd, Nat.reduceMul, Int.reduceToNat, zG0, zG1, zG2, zCa, zCi, zCb, zCs, zCf, zCn, zCt, zCm, zCp])
              |
                refine' HL_call rfl en46 (call_fn (EvL.cons (Ev.tmp rfl) (EvL.cons (Ev.tmp rfl) EvL.nil)).evs) ((has_calls (l := l) (n := n) (hs' _) hl)) ?_
                rintro _ _ ⟨rfl, rfl⟩
                simp only [zS0, zS1, zTn, Nat.reduceAdd, Nat.reduceMul, Int.reduceToNat, zG0, zG1, zG2, zCa, zCi, zCb, zCs, zCf, zCn, zCt, zCm, zCp]
            first
              | (refine HL_skip rfl ?_; simp only [zS0, zS1, zTn, Nat.reduceAdd, Nat.reduceMul, Int.reduceToNat, zG0, zG1, zG2, zCa, zCi, zCb, zCs, zCf, zCn, zCt, zCm, zCp])
              |
                refine' HL_q rfl rfl (QV_pick (Ev.tmp rfl) Ev.const (Ev.tmp rfl)) ?_
                simp only [if_true, if_false, Bool.false_eq_true, reduceIte, zS0, zS1, zTn, Nat.reduceAdd, Nat.reduceMul, Int.reduceToNat, zG0, zG1, zG2, zCa, zCi, zCb, zCs, zCf, zCn, zCt, zCm, zCp]
            first
              | (refine HL_skip rfl ?_; simp only [zS0, zS1, zTn, Nat.reduceAdd, Nat.reduceMul, Int.reduceToNat, zG0, zG1, zG2, zCa, zCi, zCb, zCs, zCf, zCn, zCt, zCm, zCp])
              |
                refine' HL_q rfl rfl (QV_bin (Ev.tmp rfl) (Ev.tmp rfl) ?hr) ?_
                case hr => intro w; first | (go_simp; done) | (go_simp; rfl)
                simp only [zS0, zS1, zTn, Nat.reduceAdd, Nat.reduceMul, Int.reduceToNat, zG0, zG1, zG2, zCa, zCi, zCb, zCs, zCf, zCn, zCt, zCm, zCp]
            first
              | (refine HL_skip rfl ?_; simp only [zS0, zS1, zTn, Nat.reduceAdd, Nat.reduceMul, Int.reduceToNat, zG0, zG1, zG2, zCa, zCi, zCb, zCs, zCf, zCn, zCt, zCm, zCp])
              |
                refine' HL_q rfl rfl (QV_pick (Ev.tmp rfl) Ev.const (Ev.tmp rfl)) ?_
                simp only [if_true, if_false, Bool.false_eq_true, reduceIte, zS0, zS1, zTn, Nat.reduceAdd, Nat.reduceMul, Int.reduceToNat, zG0, zG1, zG2, zCa, zCi, zCb, zCs, zCf, zCn, zCt, zCm, zCp]
            refine' HL_q rfl rfl (QV_pick (Ev.tmp rfl) (Ev.tmp rfl) Ev.const) ?_
            simp only [if_true, if_false, Bool.false_eq_true, reduceIte, zS0, zS1, zTn, Nat.reduceAdd, Nat.reduceMul, Int.reduceToNat, zG0, zG1, zG2, zCa, zCi, zCb, zCs, zCf, zCn, zCt, zCm, zCp]
            refine HL_nil ?_
            refine hN9 _ _ ?_
            try clear hN9 N9
            refine HC_false rfl ?_
            refine HC_skip ?_
            refine hN8 _ _ ?_
            try clear hN8 N8
            refine HC_seq fun N11 hN11 => ?_
            refine HC_seq fun N12 hN12 => ?_
            refine HC_region ?_
            refine' HL_q rfl rfl (QV_move (Ev.tmp rfl)) ?_
            simp only [zS0, zS1, zTn, Nat.reduceAdd, Nat.reduceMul, Int.reduceToNat, zG0, zG1, zG2, zCa, zCi, zCb, zCs, zCf, zCn, zCt, zCm, zCp]
            first
              | (refine' HL_q rfl rfl (QV_eql_y (Ev.tmp rfl) Ev.const ?hb) ?_; case hb => omega)
              | (refine' HL_q rfl rfl (QV_eql_n (Ev.tmp rfl) Ev.const ?hb) ?_; case hb => omega)
              | (refine' HL_q rfl rfl (QV_eql (Ev.tmp rfl) Ev.const) ?_)
            simp only [zS0, zS1, zTn, Nat.reduceAdd, Nat.reduceMul, Int.reduceToNat, zG0, zG1, zG2, zCa, zCi, zCb, zCs, zCf, zCn, zCt, zCm, zCp]
            refine' HL_q rfl rfl (QV_move (Ev.tmp rfl)) ?_
            simp only [zS0, zS1, zTn, Nat.reduceAdd, Nat.reduceMul, Int.reduceToNat, zG0, zG1, zG2, zCa, zCi, zCb, zCs, zCf, zCn, zCt, zCm, zCp]
            first
              | (refine HL_skip rfl ?_; simp only [zS0, zS1, zTn, Nat.reduceAdd, Nat.reduceMul, Int.reduceToNat, zG0, zG1, zG2, zCa, zCi, zCb, zCs, zCf, zCn, zCt, zCm, zCp])
              |
                refine' HL_q rfl rfl (QV_move (Ev.tmp rfl)) ?_
                simp only [zS0, zS1, zTn, Nat.reduceAdd, Nat.reduceMul, Int.reduceToNat, zG0, zG1, zG2, zCa, zCi, zCb, zCs, zCf, zCn, zCt, zCm, zCp]
            first
              | (refine HL_skip rfl ?_; simp only [zS0, zS1, zTn, Nat.reduceAdd, Nat.reduceMul, Int.reduceToNat, zG0, zG1, zG2, zCa, zCi, zCb, zCs, zCf, zCn, zCt, zCm, zCp])
              |
                refine' HL_call rfl en45 (call_fn (EvL.cons (Ev.tmp rfl) EvL.nil).evs) ((check_calls (l := o2) (hl2.sub (by (repeat (first | with_reducible exact List.Sublist.refl _ | with_reducible exact List.nil_sublist _ | with_reducible apply List.Sublist.cons_cons | with_reducible apply List.Sublist.cons)))) (wide_of k2) (canon_long ⟨k2, h2⟩))) ?_
                rintro _ _ ⟨b, rfl, hb, rfl⟩
                obtain rfl : b = true := hb.2 ⟨k2, h2⟩
                simp only [zS0, zS1, zTn, Nat.reduceAdd, Nat.reduceMul, Int.reduceToNat, zG0, zG1, zG2, zCa, zCi, zCb, zCs, zCf, zCn, zCt, zCm, zCp]
            first
              | (refine HL_skip rfl ?_; simp only [zS0, zS1, zTn, Nat.reduceAdd, Nat.reduceMul, Int.reduceToNat, zG0, zG1, zG2, zCa, zCi, zCb, zCs, zCf, zCn, zCt, zCm, zCp])
              |
                refine' HL_q rfl rfl (QV_un (Ev.tmp rfl) ?hr) ?_
                case hr => intro w; first | (go_simp; done) | (go_simp; rfl)
                simp only [zS0, zS1, zTn, Nat.reduceAdd, Nat.reduceMul, Int.reduceToNat, zG0, zG1, zG2, zCa, zCi, zCb, zCs, zCf, zCn, zCt, zCm, zCp]
            first
              | (refine HL_skip rfl ?_; simp only [zS0, zS1, zTn, Nat.reduceAdd, Nat.reduceMul, Int.reduceToNat, zG0, zG1, zG2, zCa, zCi, zCb, zCs, zCf, zCn, zCt, zCm, zCp])
              |
                refine' HL_q rfl rfl (QV_move (Ev.tmp rfl)) ?_
                simp only [zS0, zS1, zTn, Nat.reduceAdd, Nat.reduceMul, Int.reduceToNat, zG0, zG1, zG2, zCa, zCi, zCb, zCs, zCf, zCn, zCt, zCm, zCp]
            first
              | (refine HL_skip rfl ?_; simp only [zS0, zS1, zTn, Nat.reduceAdd, Nat.reduceMul, Int.reduceToNat, zG0, zG1, zG2, zCa, zCi, zCb, zCs, zCf, zCn, zCt, zCm, zCp])
              |
                refine' HL_q rfl rfl (QV_move (Ev.tmp rfl)) ?_
                simp only [zS0, zS1, zTn, Nat.reduceAdd, Nat.reduceMul, Int.reduceToNat, zG0, zG1, zG2, zCa, zCi, zCb, zCs, zCf, zCn, zCt, zCm, zCp]
            first
              | (refine HL_skip rfl ?_; simp only [zS0, zS1, zTn, Nat.reduceAdd, Nat.reduceMul, Int.reduceToNat, zG0, zG1, zG2, zCa, zCi, zCb, zCs, zCf, zCn, zCt, zCm, zCp])
              |
                refine' HL_q rfl rfl (QV_move (Ev.tmp rfl)) ?_
                simp only [zS0, zS1, zTn, Nat.reduceAdd, Nat.reduceMul, Int.reduceToNat, zG0, zG1, zG2, zCa, zCi, zCb, zCs, zCf, zCn, zCt, zCm, zCp]
            first
              | (refine HL_skip rfl ?_; simp only [zS0, zS1, zTn, Nat.reduceAdd, Nat.reduceMul, Int.reduceToNat, zG0, zG1, zG2, zCa, zCi, zCb, zCs, zCf, zCn, zCt, zCm, zCp])
              |
                refine' HL_call rfl en46 (call_fn (EvL.cons (Ev.tmp rfl) (EvL.cons (Ev.tmp rfl) EvL.nil)).evs) ((has_calls (l := o2) (n := n) (hl2.sub (by (repeat (first | with_reducible exact List.Sublist.refl _ | with_reducible exact List.nil_sublist _ | with_reducible apply List.Sublist.cons_cons | with_reducible apply List.Sublist.cons)))) (canon_long ⟨k2, h2⟩))) ?_
                rintro _ _ ⟨rfl, rfl⟩
                simp only [zS0, zS1, zTn, Nat.reduceAdd, Nat.reduceMul, Int.reduceToNat, zG0, zG1, zG2, zCa, zCi, zCb, zCs, zCf, zCn, zCt, zCm, zCp]
            first
              | (refine HL_skip rfl ?_; simp only [zS0, zS1, zTn, Nat.reduceAdd, Nat.reduceMul, Int.reduceToNat, zG0, zG1, zG2, zCa, zCi, zCb, zCs, zCf, zCn, zCt, zCm, zCp])
              |
                refine' HL_q rfl rfl (QV_move (Ev.tmp rfl)) ?_
                simp only [zS0, zS1, zTn, Nat.reduceAdd, Nat.reduceMul, Int.reduceToNat, zG0, zG1, zG2, zCa, zCi, zCb, zCs, zCf, zCn, zCt, zCm, zCp]
            first
              | (refine HL_skip rfl ?_; simp only [zS0, zS1, zTn, Nat.reduceAdd, Nat.reduceMul, Int.reduceToNat, zG0, zG1, zG2, zCa, zCi, zCb, zCs, zCf, zCn, zCt, zCm, zCp])
              |
                refine' HL_q rfl rfl (QV_un (Ev.tmp rfl) ?hr) ?_
                case hr => intro w; first | (go_simp; done) | (go_simp; rfl)
                simp only [zS0, zS1, zTn, Nat.reduceAdd, Nat.reduceMul, Int.reduceToNat, zG0, zG1, zG2, zCa, zCi, zCb, zCs, zCf, zCn, zCt, zCm, zCp]
            first
              | (refine HL_skip rfl ?_; simp only [zS0, zS1, zTn, Nat.reduceAdd, Nat.reduceMul, Int.reduceToNat, zG0, zG1, zG2, zCa, zCi, zCb, zCs, zCf, zCn, zCt, zCm, zCp])
              |
                refine' HL_q rfl rfl (QV_move (Ev.tmp rfl)) ?_
                simp only [zS0, zS1, zTn, Nat.reduceAdd, Nat.reduceMul, Int.reduceToNat, zG0, zG1, zG2, zCa, zCi, zCb, zCs, zCf, zCn, zCt, zCm, zCp]
            first
              | (refine HL_skip rfl ?_; simp only [zS0, zS1, zTn, Nat.reduceAdd, Nat.reduceMul, Int.reduceToNat, zG0, zG1, zG2, zCa, zCi, zCb, zCs, zCf, zCn, zCt, zCm, zCp])
              |
                refine' HL_q rfl rfl (QV_move (Ev.tmp rfl)) ?_
                simp only [zS0, zS1, zTn, Nat.reduceAdd, Nat.reduceMul, Int.reduceToNat, zG0, zG1, zG2, zCa, zCi, zCb, zCs, zCf, zCn, zCt, zCm, zCp]
            first
              | (refine HL_skip rfl ?_; simp only [zS0, zS1, zTn, Nat.reduceAdd, Nat.reduceMul, Int.reduceToNat, zG0, zG1, zG2, zCa, zCi, zCb, zCs, zCf, zCn, zCt, zCm, zCp])
              |
                refine' HL_q rfl rfl (QV_move (Ev.tmp rfl)) ?_
                simp only [zS0, zS1, zTn, Nat.reduceAdd, Nat.reduceMul, Int.reduceToNat, zG0, zG1, zG2, zCa, zCi, zCb, zCs, zCf, zCn, zCt, zCm, zCp]
            first
              | (refine HL_skip rfl ?_; simp only [zS0, zS1, zTn, Nat.reduceAdd, Nat.reduceMul, Int.reduceToNat, zG0, zG1, zG2, zCa, zCi, zCb, zCs, zCf, zCn, zCt, zCm, zCp])
              |
                refine' HL_call rfl en46 (call_fn (EvL.cons (Ev.tmp rfl) (EvL.cons (Ev.tmp rfl) EvL.nil)).evs) ((has_calls (l := l) (n := n) (hs' _) hl)) ?_
                rintro _ _ ⟨rfl, rfl⟩
                simp only [zS0, zS1, zTn, Nat.reduceAdd, Nat.reduceMul, Int.reduceToNat, zG0, zG1, zG2, zCa, zCi, zCb, zCs, zCf, zCn, zCt, zCm, zCp]
            first
              | (refine HL_skip rfl ?_; simp only [zS0, zS1, zTn, Nat.reduceAdd, Nat.reduceMul, Int.reduceToNat, zG0, zG1, zG2, zCa, zCi, zCb, zCs, zCf, zCn, zCt, zCm, zCp])
              |
                refine' HL_q rfl rfl (QV_pick (Ev.tmp rfl) (Ev.tmp rfl) Ev.const) ?_
                simp only [if_true, if_false, Bool.false_eq_true, reduceIte, zS0, zS1, zTn, Nat.reduceAdd, Nat.reduceMul, Int.reduceToNat, zG0, zG1, zG2, zCa, zCi, zCb, zCs, zCf, zCn, zCt, zCm, zCp]
            first
              | (refine HL_skip rfl ?_; simp only [zS0, zS1, zTn, Nat.reduceAdd, Nat.reduceMul, Int.reduceToNat, zG0, zG1, zG2, zCa, zCi, zCb, zCs, zCf, zCn, zCt, zCm, zCp])
              |
                refine' HL_q rfl rfl (QV_bin (Ev.tmp rfl) (Ev.tmp rfl) ?hr) ?_
                case hr => intro w; first | (go_simp; done) | (go_simp; rfl)
                simp only [zS0, zS1, zTn, Nat.reduceAdd, Nat.reduceMul, Int.reduceToNat, zG0, zG1, zG2, zCa, zCi, zCb, zCs, zCf, zCn, zCt, zCm, zCp]
            first
              | (refine HL_skip rfl ?_; simp only [zS0, zS1, zTn, Nat.reduceAdd, Nat.reduceMul, Int.reduceToNat, zG0, zG1, zG2, zCa, zCi, zCb, zCs, zCf, zCn, zCt, zCm, zCp])
              |
                refine' HL_q rfl rfl (QV_pick (Ev.tmp rfl) Ev.const (Ev.tmp rfl)) ?_
                simp only [if_true, if_false, Bool.false_eq_true, reduceIte, zS0, zS1, zTn, Nat.reduceAdd, Nat.reduceMul, Int.reduceToNat, zG0, zG1, zG2, zCa, zCi, zCb, zCs, zCf, zCn, zCt, zCm, zCp]
            refine' HL_q rfl rfl (QV_pick (Ev.tmp rfl) (Ev.tmp rfl) Ev.const) ?_
            simp only [if_true, if_false, Bool.false_eq_true, reduceIte, zS0, zS1, zTn, Nat.reduceAdd, Nat.reduceMul, Int.reduceToNat, zG0, zG1, zG2, zCa, zCi, zCb, zCs, zCf, zCn, zCt, zCm, zCp]
            refine HL_nil ?_
            refine hN12 _ _ ?_
            try clear hN12 N12
            refine HC_false rfl ?_
            refine HC_skip ?_
            refine hN11 _ _ ?_
            try clear hN11 N11
            refine HC_seq fun N14 hN14 => ?_
            refine HC_region ?_
            refine' HL_q rfl rfl (QV_move (Ev.tmp rfl)) ?_
            simp only [zS0, zS1, zTn, Nat.reduceAdd, Nat.reduceMul, Int.reduceToNat, zG0, zG1, zG2, zCa, zCi, zCb, zCs, zCf, zCn, zCt, zCm, zCp]
            -- operation 1
            refine' HL_call rfl en45 (call_fn (EvL.cons (Ev.tmp rfl) EvL.nil).evs) ((check_calls (hs' _) hw hl)) ?_
            rintro _ _ ⟨b, rfl, hb, rfl⟩
            obtain rfl : b = false := (by cases b <;> first | rfl | exact absurd (hb.1 rfl) c1)
            simp only [zS0, zS1, zTn, Nat.reduceAdd, Nat.reduceMul, Int.reduceToNat, zG0, zG1, zG2, zCa, zCi, zCb, zCs, zCf, zCn, zCt, zCm, zCp]
            refine' HL_q rfl rfl (QV_un (Ev.tmp rfl) ?hr) ?_
            case hr => intro w; first | (go_simp; done) | (go_simp; rfl)
            simp only [zS0, zS1, zTn, Nat.reduceAdd, Nat.reduceMul, Int.reduceToNat, zG0, zG1, zG2, zCa, zCi, zCb, zCs, zCf, zCn, zCt, zCm, zCp]
            refine' HL_q rfl rfl (QV_move (Ev.tmp rfl)) ?_
            simp only [zS0, zS1, zTn, Nat.reduceAdd, Nat.reduceMul, Int.reduceToNat, zG0, zG1, zG2, zCa, zCi, zCb, zCs, zCf, zCn, zCt, zCm, zCp]
            first
              | (refine HL_skip rfl ?_; simp only [zS0, zS1, zTn, Nat.reduceAdd, Nat.reduceMul, Int.reduceToNat, zG0, zG1, zG2, zCa, zCi, zCb, zCs, zCf, zCn, zCt, zCm, zCp])
              |
                refine' HL_q rfl rfl (QV_field (Ev.tmp rfl) (fld67_0 _ _)) ?_
                simp only [zS0, zS1, zTn, Nat.reduceAdd, Nat.reduceMul, Int.reduceToNat, zG0, zG1, zG2, zCa, zCi, zCb, zCs, zCf, zCn, zCt, zCm, zCp]
            first
              | (refine HL_skip rfl ?_; simp only [zS0, zS1, zTn, Nat.reduceAdd, Nat.reduceMul, Int.reduceToNat, zG0, zG1, zG2, zCa, zCi, zCb, zCs, zCf, zCn, zCt, zCm, zCp])
              |
                first
                  | (refine' HL_q rfl rfl (QV_load1 (Ev.tmp rfl) Try.isAgg30 ?hm ?hv) ?_; (case hm => (repeat (first | exact List.Mem.head _ | assumption | apply List.Mem.tail))); (case hv => (first | rfl | assumption)))
                  | (refine' HL_q rfl rfl (QV_loadR (Ev.tmp rfl) ?hp Try.isAgg30 ?hs ?hv) ?_; (case hs => (first | assumption | (refine' Sl.sub (by assumption) ?_; (repeat (first | with_reducible exact List.Sublist.refl _ | with_reducible exact List.nil_sublist _ | with_reducible apply List.Sublist.cons_cons | with_reducible apply List.Sublist.cons))))); (case hv => (first  | rfl | assumption)); (case hp => (first | rfl | omega)))
                simp only [zS0, zS1, zTn, Nat.reduceAdd, Nat.reduceMul, Int.reduceToNat, zG0, zG1, zG2, zCa, zCi, zCb, zCs, zCf, zCn, zCt, zCm, zCp]
            first
              | (refine HL_skip rfl ?_; simp only [zS0, zS1, zTn, Nat.reduceAdd, Nat.reduceMul, Int.reduceToNat, zG0, zG1, zG2, zCa, zCi, zCb, zCs, zCf, zCn, zCt, zCm, zCp])
              |
                refine' HL_q rfl rfl (QV_field (Ev.tmp rfl) (fld67_1 _ _)) ?_
                simp only [zS0, zS1, zTn, Nat.reduceAdd, Nat.reduceMul, Int.reduceToNat, zG0, zG1, zG2, zCa, zCi, zCb, zCs, zCf, zCn, zCt, zCm, zCp]
            first
              | (refine HL_skip rfl ?_; simp only [zS0, zS1, zTn, Nat.reduceAdd, Nat.reduceMul, Int.reduceToNat, zG0, zG1, zG2, zCa, zCi, zCb, zCs, zCf, zCn, zCt, zCm, zCp])
              |
                first
                  | (refine' HL_q rfl rfl (QV_load1 (Ev.tmp rfl) Try.isAgg30 ?hm ?hv) ?_; (case hm => (repeat (first | exact List.Mem.head _ | assumption | apply List.Mem.tail))); (case hv => (first | rfl | assumption)))
                  | (refine' HL_q rfl rfl (QV_loadR (Ev.tmp rfl) ?hp Try.isAgg30 ?hs ?hv) ?_; (case hs => (first | assumption | (refine' Sl.sub (by assumption) ?_; (repeat (first | with_reducible exact List.Sublist.refl _ | with_reducible exact List.nil_sublist _ | with_reducible apply List.Sublist.cons_cons | with_reducible apply List.Sublist.cons))))); (case hv => (first  | rfl | assumption)); (case hp => (first | rfl | omega)))
                simp only [zS0, zS1, zTn, Nat.reduceAdd, Nat.reduceMul, Int.reduceToNat, zG0, zG1, zG2, zCa, zCi, zCb, zCs, zCf, zCn, zCt, zCm, zCp]
            first
              | (refine HL_skip rfl ?_; simp only [zS0, zS1, zTn, Nat.reduceAdd, Nat.reduceMul, Int.reduceToNat, zG0, zG1, zG2, zCa, zCi, zCb, zCs, zCf, zCn, zCt, zCm, zCp])
              |
                first
                  | (refine' HL_q rfl rfl (QV_gtr_y (Ev.tmp rfl) (Ev.tmp rfl) ?hb) ?_; case hb => omega)
                  | (refine' HL_q rfl rfl (QV_gtr_n (Ev.tmp rfl) (Ev.tmp rfl) ?hb) ?_; case hb => omega)
                  | (refine' HL_q rfl rfl (QV_gtr (Ev.tmp rfl) (Ev.tmp rfl)) ?_)
                simp only [zS0, zS1, zTn, Nat.reduceAdd, Nat.reduceMul, Int.reduceToNat, zG0, zG1, zG2, zCa, zCi, zCb, zCs, zCf, zCn, zCt, zCm, zCp]
            refine' HL_q rfl rfl (QV_pick (Ev.tmp rfl) Ev.const (Ev.tmp rfl)) ?_
            simp only [if_true, if_false, Bool.false_eq_true, reduceIte, zS0, zS1, zTn, Nat.reduceAdd, Nat.reduceMul, Int.reduceToNat, zG0, zG1, zG2, zCa, zCi, zCb, zCs, zCf, zCn, zCt, zCm, zCp]
            refine' HL_q rfl rfl (QV_move (Ev.tmp rfl)) ?_
            simp only [zS0, zS1, zTn, Nat.reduceAdd, Nat.reduceMul, Int.reduceToNat, zG0, zG1, zG2, zCa, zCi, zCb, zCs, zCf, zCn, zCt, zCm, zCp]
            first
              | (refine HL_skip rfl ?_; simp only [zS0, zS1, zTn, Nat.reduceAdd, Nat.reduceMul, Int.reduceToNat, zG0, zG1, zG2, zCa, zCi, zCb, zCs, zCf, zCn, zCt, zCm, zCp])
              |
                refine' HL_q rfl rfl (QV_field (Ev.tmp rfl) (fld67_1 _ _)) ?_
                simp only [zS0, zS1, zTn, Nat.reduceAdd, Nat.reduceMul, Int.reduceToNat, zG0, zG1, zG2, zCa, zCi, zCb, zCs, zCf, zCn, zCt, zCm, zCp]
            first
              | (refine HL_skip rfl ?_; simp only [zS0, zS1, zTn, Nat.reduceAdd, Nat.reduceMul, Int.reduceToNat, zG0, zG1, zG2, zCa, zCi, zCb, zCs, zCf, zCn, zCt, zCm, zCp])
              |
                first
                  | (refine' HL_q rfl rfl (QV_load1 (Ev.tmp rfl) Try.isAgg30 ?hm ?hv) ?_; (case hm => (repeat (first | exact List.Mem.head _ | assumption | apply List.Mem.tail))); (case hv => (first | rfl | assumption)))
                  | (refine' HL_q rfl rfl (QV_loadR (Ev.tmp rfl) ?hp Try.isAgg30 ?hs ?hv) ?_; (case hs => (first | assumption | (refine' Sl.sub (by assumption) ?_; (repeat (first | with_reducible exact List.Sublist.refl _ | with_reducible exact List.nil_sublist _ | with_reducible apply List.Sublist.cons_cons | with_reducible apply List.Sublist.cons))))); (case hv => (first  | rfl | assumption)); (case hp => (first | rfl | omega)))
                simp only [zS0, zS1, zTn, Nat.reduceAdd, Nat.reduceMul, Int.reduceToNat, zG0, zG1, zG2, zCa, zCi, zCb, zCs, zCf, zCn, zCt, zCm, zCp]
            first
              | (refine HL_skip rfl ?_; simp only [zS0, zS1, zTn, Nat.reduceAdd, Nat.reduceMul, Int.reduceToNat, zG0, zG1, zG2, zCa, zCi, zCb, zCs, zCf, zCn, zCt, zCm, zCp])
              |
                first
                  | (refine' HL_q rfl rfl (QV_gtr_y (Ev.tmp rfl) Ev.const ?hb) ?_; case hb => omega)
                  | (refine' HL_q rfl rfl (QV_gtr_n (Ev.tmp rfl) Ev.const ?hb) ?_; case hb => omega)
                  | (refine' HL_q rfl rfl (QV_gtr (Ev.tmp rfl) Ev.const) ?_)
                simp only [zS0, zS1, zTn, Nat.reduceAdd, Nat.reduceMul, Int.reduceToNat, zG0, zG1, zG2, zCa, zCi, zCb, zCs, zCf, zCn, zCt, zCm, zCp]
            refine' HL_q rfl rfl (QV_pick (Ev.tmp rfl) Ev.const (Ev.tmp rfl)) ?_
            simp only [if_true, if_false, Bool.false_eq_true, reduceIte, zS0, zS1, zTn, Nat.reduceAdd, Nat.reduceMul, Int.reduceToNat, zG0, zG1, zG2, zCa, zCi, zCb, zCs, zCf, zCn, zCt, zCm, zCp]
            refine' HL_q rfl rfl (QV_assign (Ev.tmp rfl)) ?_
            simp only [zS0, zS1, zTn, Nat.reduceAdd, Nat.reduceMul, Int.reduceToNat, zG0, zG1, zG2, zCa, zCi, zCb, zCs, zCf, zCn, zCt, zCm, zCp]
            refine HL_nil ?_
            refine hN14 _ _ ?_
            try clear hN14 N14
            refine HC_seq fun N15 hN15 => ?_
            refine HC_region ?_
            refine' HL_q rfl rfl (QV_move (Ev.tmp rfl)) ?_
            simp only [zS0, zS1, zTn, Nat.reduceAdd, Nat.reduceMul, Int.reduceToNat, zG0, zG1, zG2, zCa, zCi, zCb, zCs, zCf, zCn, zCt, zCm, zCp]
            first
              | (refine' HL_q rfl rfl (QV_eql_y (Ev.tmp rfl) Ev.const ?hb) ?_; case hb => omega)
              | (refine' HL_q rfl rfl (QV_eql_n (Ev.tmp rfl) Ev.const ?hb) ?_; case hb => omega)
              | (refine' HL_q rfl rfl (QV_eql (Ev.tmp rfl) Ev.const) ?_)
            simp only [zS0, zS1, zTn, Nat.reduceAdd, Nat.reduceMul, Int.reduceToNat, zG0, zG1, zG2, zCa, zCi, zCb, zCs, zCf, zCn, zCt, zCm, zCp]
            refine' HL_q rfl rfl (QV_move (Ev.tmp rfl)) ?_
            simp only [zS0, zS1, zTn, Nat.reduceAdd, Nat.reduceMul, Int.reduceToNat, zG0, zG1, zG2, zCa, zCi, zCb, zCs, zCf, zCn, zCt, zCm, zCp]
            refine' HL_q rfl rfl (QV_bin (Ev.tmp rfl) (Ev.tmp rfl) ?hr) ?_
            case hr => intro w; first | (go_simp; done) | (go_simp; rfl)
            simp only [zS0, zS1, zTn, Nat.reduceAdd, Nat.reduceMul, Int.reduceToNat, zG0, zG1, zG2, zCa, zCi, zCb, zCs, zCf, zCn, zCt, zCm, zCp]
            refine' HL_q rfl rfl (QV_move (Ev.tmp rfl)) ?_
            simp only [zS0, zS1, zTn, Nat.reduceAdd, Nat.reduceMul, Int.reduceToNat, zG0, zG1, zG2, zCa, zCi, zCb, zCs, zCf, zCn, zCt, zCm, zCp]
            first
              | (refine HL_skip rfl ?_; simp only [zS0, zS1, zTn, Nat.reduceAdd, Nat.reduceMul, Int.reduceToNat, zG0, zG1, zG2, zCa, zCi, zCb, zCs, zCf, zCn, zCt, zCm, zCp])
              |
                refine' HL_q rfl rfl (QV_move (Ev.tmp rfl)) ?_
                simp only [zS0, zS1, zTn, Nat.reduceAdd, Nat.reduceMul, Int.reduceToNat, zG0, zG1, zG2, zCa, zCi, zCb, zCs, zCf, zCn, zCt, zCm, zCp]
            first
              | (refine HL_skip rfl ?_; simp only [zS0, zS1, zTn, Nat.reduceAdd, Nat.reduceMul, Int.reduceToNat, zG0, zG1, zG2, zCa, zCi, zCb, zCs, zCf, zCn, zCt, zCm, zCp])
              |
                first
                  | (refine' HL_q rfl rfl (QV_eql_y (Ev.tmp rfl) Ev.const ?hb) ?_; case hb => omega)
                  | (refine' HL_q rfl rfl (QV_eql_n (Ev.tmp rfl) Ev.const ?hb) ?_; case hb => omega)
                  | (refine' HL_q rfl rfl (QV_eql (Ev.tmp rfl) Ev.const) ?_)
                simp only [zS0, zS1, zTn, Nat.reduceAdd, Nat.reduceMul, Int.reduceToNat, zG0, zG1, zG2, zCa, zCi, zCb, zCs, zCf, zCn, zCt, zCm, zCp]
            first
              | (refine HL_skip rfl ?_; simp only [zS0, zS1, zTn, Nat.reduceAdd, Nat.reduceMul, Int.reduceToNat, zG0, zG1, zG2, zCa, zCi, zCb, zCs, zCf, zCn, zCt, zCm, zCp])
              |
                refine' HL_q rfl rfl (QV_move (Ev.tmp rfl)) ?_
                simp only [zS0, zS1, zTn, Nat.reduceAdd, Nat.reduceMul, Int.reduceToNat, zG0, zG1, zG2, zCa, zCi, zCb, zCs, zCf, zCn, zCt, zCm, zCp]
            first
              | (refine HL_skip rfl ?_; simp only [zS0, zS1, zTn, Nat.reduceAdd, Nat.reduceMul, Int.reduceToNat, zG0, zG1, zG2, zCa, zCi, zCb, zCs, zCf, zCn, zCt, zCm, zCp])
              |
                refine' HL_q rfl rfl (QV_bin (Ev.tmp rfl) (Ev.tmp rfl) ?hr) ?_
                case hr => intro w; first | (go_simp; done) | (go_simp; rfl)
                simp only [zS0, zS1, zTn, Nat.reduceAdd, Nat.reduceMul, Int.reduceToNat, zG0, zG1, zG2, zCa, zCi, zCb, zCs, zCf, zCn, zCt, zCm, zCp]
            refine' HL_q rfl rfl (QV_pick (Ev.tmp rfl) (Ev.tmp rfl) Ev.const) ?_
            simp only [if_true, if_false, Bool.false_eq_true, reduceIte, zS0, zS1, zTn, Nat.reduceAdd, Nat.reduceMul, Int.reduceToNat, zG0, zG1, zG2, zCa, zCi, zCb, zCs, zCf, zCn, zCt, zCm, zCp]
            refine' HL_q rfl rfl (QV_move (Ev.tmp rfl)) ?_
            simp only [zS0, zS1, zTn, Nat.reduceAdd, Nat.reduceMul, Int.reduceToNat, zG0, zG1, zG2, zCa, zCi, zCb, zCs, zCf, zCn, zCt, zCm, zCp]
            first
              | (refine HL_skip rfl ?_; simp only [zS0, zS1, zTn, Nat.reduceAdd, Nat.reduceMul, Int.reduceToNat, zG0, zG1, zG2, zCa, zCi, zCb, zCs, zCf, zCn, zCt, zCm, zCp])
              |
                refine' HL_q rfl rfl (QV_move (Ev.tmp rfl)) ?_
                simp only [zS0, zS1, zTn, Nat.reduceAdd, Nat.reduceMul, Int.reduceToNat, zG0, zG1, zG2, zCa, zCi, zCb, zCs, zCf, zCn, zCt, zCm, zCp]
            first
              | (refine HL_skip rfl ?_; simp only [zS0, zS1, zTn, Nat.reduceAdd, Nat.reduceMul, Int.reduceToNat, zG0, zG1, zG2, zCa, zCi, zCb, zCs, zCf, zCn, zCt, zCm, zCp])
              |
                first
                  | (refine' HL_q rfl rfl (QV_eql_y (Ev.tmp rfl) Ev.const ?hb) ?_; case hb => omega)
                  | (refine' HL_q rfl rfl (QV_eql_n (Ev.tmp rfl) Ev.const ?hb) ?_; case hb => omega)
                  | (refine' HL_q rfl rfl (QV_eql (Ev.tmp rfl) Ev.const) ?_)
                simp only [zS0, zS1, zTn, Nat.reduceAdd, Nat.reduceMul, Int.reduceToNat, zG0, zG1, zG2, zCa, zCi, zCb, zCs, zCf, zCn, zCt, zCm, zCp]
            first
              | (refine HL_skip rfl ?_; simp only [zS0, zS1, zTn, Nat.reduceAdd, Nat.reduceMul, Int.reduceToNat, zG0, zG1, zG2, zCa, zCi, zCb, zCs, zCf, zCn, zCt, zCm, zCp])
              |
                refine' HL_q rfl rfl (QV_move (Ev.tmp rfl)) ?_
                simp only [zS0, zS1, zTn, Nat.reduceAdd, Nat.reduceMul, Int.reduceToNat, zG0, zG1, zG2, zCa, zCi, zCb, zCs, zCf, zCn, zCt, zCm, zCp]
            first
              | (refine HL_skip rfl ?_; simp only [zS0, zS1, zTn, Nat.reduceAdd, Nat.reduceMul, Int.reduceToNat, zG0, zG1, zG2, zCa, zCi, zCb, zCs, zCf, zCn, zCt, zCm, zCp])
              |
                refine' HL_q rfl rfl (QV_move (Ev.tmp rfl)) ?_
                simp only [zS0, zS1, zTn, Nat.reduceAdd, Nat.reduceMul, Int.reduceToNat, zG0, zG1, zG2, zCa, zCi, zCb, zCs, zCf, zCn, zCt, zCm, zCp]
            first
              | (refine HL_skip rfl ?_; simp only [zS0, zS1, zTn, Nat.reduceAdd, Nat.reduceMul, Int.reduceToNat, zG0, zG1, zG2, zCa, zCi, zCb, zCs, zCf, zCn, zCt, zCm, zCp])
              |
                first
                  | (refine' HL_q rfl rfl (QV_eql_y (Ev.tmp rfl) Ev.const ?hb) ?_; case hb => omega)
                  | (refine' HL_q rfl rfl (QV_eql_n (Ev.tmp rfl) Ev.const ?hb) ?_; case hb => omega)
                  | (refine' HL_q rfl rfl (QV_eql (Ev.tmp rfl) Ev.const) ?_)
                simp only [zS0, zS1, zTn, Nat.reduceAdd, Nat.reduceMul, Int.reduceToNat, zG0, zG1, zG2, zCa, zCi, zCb, zCs, zCf, zCn, zCt, zCm, zCp]
            first
              | (refine HL_skip rfl ?_; simp only [zS0, zS1, zTn, Nat.reduceAdd, Nat.reduceMul, Int.reduceToNat, zG0, zG1, zG2, zCa, zCi, zCb, zCs, zCf, zCn, zCt, zCm, zCp])
              |
                refine' HL_q rfl rfl (QV_pick (Ev.tmp rfl) Ev.const (Ev.tmp rfl)) ?_
                simp only [if_true, if_false, Bool.false_eq_true, reduceIte, zS0, zS1, zTn, Nat.reduceAdd, Nat.reduceMul, Int.reduceToNat, zG0, zG1, zG2, zCa, zCi, zCb, zCs, zCf, zCn, zCt, zCm, zCp]
            first
              | (refine HL_skip rfl ?_; simp only [zS0, zS1, zTn, Nat.reduceAdd, Nat.reduceMul, Int.reduceToNat, zG0, zG1, zG2, zCa, zCi, zCb, zCs, zCf, zCn, zCt, zCm, zCp])
              |
                refine' HL_q rfl rfl (QV_move (Ev.tmp rfl)) ?_
                simp only [zS0, zS1, zTn, Nat.reduceAdd, Nat.reduceMul, Int.reduceToNat, zG0, zG1, zG2, zCa, zCi, zCb, zCs, zCf, zCn, zCt, zCm, zCp]
            first
              | (refine HL_skip rfl ?_; simp only [zS0, zS1, zTn, Nat.reduceAdd, Nat.reduceMul, Int.reduceToNat, zG0, zG1, zG2, zCa, zCi, zCb, zCs, zCf, zCn, zCt, zCm, zCp])
              |
                refine' HL_q rfl rfl (QV_move (Ev.tmp rfl)) ?_
                simp only [zS0, zS1, zTn, Nat.reduceAdd, Nat.reduceMul, Int.reduceToNat, zG0, zG1, zG2, zCa, zCi, zCb, zCs, zCf, zCn, zCt, zCm, zCp]
            first
              | (refine HL_skip rfl ?_; simp only [zS0, zS1, zTn, Nat.reduceAdd, Nat.reduceMul, Int.reduceToNat, zG0, zG1, zG2, zCa, zCi, zCb, zCs, zCf, zCn, zCt, zCm, zCp])
              |
                first
                  | (refine' HL_q rfl rfl (QV_eql_y (Ev.tmp rfl) Ev.const ?hb) ?_; case hb => omega)
                  | (refine' HL_q rfl rfl (QV_eql_n (Ev.tmp rfl) Ev.const ?hb) ?_; case hb => omega)
                  | (refine' HL_q rfl rfl (QV_eql (Ev.tmp rfl) Ev.const) ?_)
                simp only [zS0, zS1, zTn, Nat.reduceAdd, Nat.reduceMul, Int.reduceToNat, zG0, zG1, zG2, zCa, zCi, zCb, zCs, zCf, zCn, zCt, zCm, zCp]
            first
              | (refine HL_skip rfl ?_; simp only [zS0, zS1, zTn, Nat.reduceAdd, Nat.reduceMul, Int.reduceToNat, zG0, zG1, zG2, zCa, zCi, zCb, zCs, zCf, zCn, zCt, zCm, zCp])
              |
                refine' HL_q rfl rfl (QV_pick (Ev.tmp rfl) Ev.const (Ev.tmp rfl)) ?_
                simp only [if_true, if_false, Bool.false_eq_true, reduceIte, zS0, zS1, zTn, Nat.reduceAdd, Nat.reduceMul, Int.reduceToNat, zG0, zG1, zG2, zCa, zCi, zCb, zCs, zCf, zCn, zCt, zCm, zCp]
            refine' HL_q rfl rfl (QV_pick (Ev.tmp rfl) (Ev.tmp rfl) Ev.const) ?_
            simp only [if_true, if_false, Bool.false_eq_true, reduceIte, zS0, zS1, zTn, Nat.reduceAdd, Nat.reduceMul, Int.reduceToNat, zG0, zG1, zG2, zCa, zCi, zCb, zCs, zCf, zCn, zCt, zCm, zCp]
            refine' HL_q rfl rfl (QV_move (Ev.tmp rfl)) ?_
            simp only [zS0, zS1, zTn, Nat.reduceAdd, Nat.reduceMul, Int.reduceToNat, zG0, zG1, zG2, zCa, zCi, zCb, zCs, zCf, zCn, zCt, zCm, zCp]
            first
              | (refine HL_skip rfl ?_; simp only [zS0, zS1, zTn, Nat.reduceAdd, Nat.reduceMul, Int.reduceToNat, zG0, zG1, zG2, zCa, zCi, zCb, zCs, zCf, zCn, zCt, zCm, zCp])
              |
                refine' HL_q rfl rfl (QV_move (Ev.tmp rfl)) ?_
                simp only [zS0, zS1, zTn, Nat.reduceAdd, Nat.reduceMul, Int.reduceToNat, zG0, zG1, zG2, zCa, zCi, zCb, zCs, zCf, zCn, zCt, zCm, zCp]
            first
              | (refine HL_skip rfl ?_; simp only [zS0, zS1, zTn, Nat.reduceAdd, Nat.reduceMul, Int.reduceToNat, zG0, zG1, zG2, zCa, zCi, zCb, zCs, zCf, zCn, zCt, zCm, zCp])
              |
                first
                  | (refine' HL_q rfl rfl (QV_eql_y (Ev.tmp rfl) Ev.const ?hb) ?_; case hb => omega)
                  | (refine' HL_q rfl rfl (QV_eql_n (Ev.tmp rfl) Ev.const ?hb) ?_; case hb => omega)
                  | (refine' HL_q rfl rfl (QV_eql (Ev.tmp rfl) Ev.const) ?_)
                simp only [zS0, zS1, zTn, Nat.reduceAdd, Nat.reduceMul, Int.reduceToNat, zG0, zG1, zG2, zCa, zCi, zCb, zCs, zCf, zCn, zCt, zCm, zCp]
            first
              | (refine HL_skip rfl ?_; simp only [zS0, zS1, zTn, Nat.reduceAdd, Nat.reduceMul, Int.reduceToNat, zG0, zG1, zG2, zCa, zCi, zCb, zCs, zCf, zCn, zCt, zCm, zCp])
              |
                refine' HL_q rfl rfl (QV_move (Ev.tmp rfl)) ?_
                simp only [zS0, zS1, zTn, Nat.reduceAdd, Nat.reduceMul, Int.reduceToNat, zG0, zG1, zG2, zCa, zCi, zCb, zCs, zCf, zCn, zCt, zCm, zCp]
            first
              | (refine HL_skip rfl ?_; simp only [zS0, zS1, zTn, Nat.reduceAdd, Nat.reduceMul, Int.reduceToNat, zG0, zG1, zG2, zCa, zCi, zCb, zCs, zCf, zCn, zCt, zCm, zCp])
              |
                refine' HL_q rfl rfl (QV_move (Ev.tmp rfl)) ?_
                simp only [zS0, zS1, zTn, Nat.reduceAdd, Nat.reduceMul, Int.reduceToNat, zG0, zG1, zG2, zCa, zCi, zCb, zCs, zCf, zCn, zCt, zCm, zCp]
            first
              | (refine HL_skip rfl ?_; simp only [zS0, zS1, zTn, Nat.reduceAdd, Nat.reduceMul, Int.reduceToNat, zG0, zG1, zG2, zCa, zCi, zCb, zCs, zCf, zCn, zCt, zCm, zCp])
              |
                first
                  | (refine' HL_q rfl rfl (QV_eql_y (Ev.tmp rfl) Ev.const ?hb) ?_; case hb => omega)
                  | (refine' HL_q rfl rfl (QV_eql_n (Ev.tmp rfl) Ev.const ?hb) ?_; case hb => omega)
                  | (refine' HL_q rfl rfl (QV_eql (Ev.tmp rfl) Ev.const) ?_)
                simp only [zS0, zS1, zTn, Nat.reduceAdd, Nat.reduceMul, Int.reduceToNat, zG0, zG1, zG2, zCa, zCi, zCb, zCs, zCf, zCn, zCt, zCm, zCp]
            first
              | (refine HL_skip rfl ?_; simp only [zS0, zS1, zTn, Nat.reduceAdd, Nat.reduceMul, Int.reduceToNat, zG0, zG1, zG2, zCa, zCi, zCb, zCs, zCf, zCn, zCt, zCm, zCp])
              |
                refine' HL_q rfl rfl (QV_pick (Ev.tmp rfl) Ev.const (Ev.tmp rfl)) ?_
                simp only [if_true, if_false, Bool.false_eq_true, reduceIte, zS0, zS1, zTn, Nat.reduceAdd, Nat.reduceMul, Int.reduceToNat, zG0, zG1, zG2, zCa, zCi, zCb, zCs, zCf, zCn, zCt, zCm, zCp]
            first
              | (refine HL_skip rfl ?_; simp only [zS0, zS1, zTn, Nat.reduceAdd, Nat.reduceMul, Int.reduceToNat, zG0, zG1, zG2, zCa, zCi, zCb, zCs, zCf, zCn, zCt, zCm, zCp])
              |
                refine' HL_q rfl rfl (QV_move (Ev.tmp rfl)) ?_
                simp only [zS0, zS1, zTn, Nat.reduceAdd, Nat.reduceMul, Int.reduceToNat, zG0, zG1, zG2, zCa, zCi, zCb, zCs, zCf, zCn, zCt, zCm, zCp]
            first
              | (refine HL_skip rfl ?_; simp only [zS0, zS1, zTn, Nat.reduceAdd, Nat.reduceMul, Int.reduceToNat, zG0, zG1, zG2, zCa, zCi, zCb, zCs, zCf, zCn, zCt, zCm, zCp])
              |
                refine' HL_q rfl rfl (QV_move (Ev.tmp rfl)) ?_
                simp only [zS0, zS1, zTn, Nat.reduceAdd, Nat.reduceMul, Int.reduceToNat, zG0, zG1, zG2, zCa, zCi, zCb, zCs, zCf, zCn, zCt, zCm, zCp]
            first
              | (refine HL_skip rfl ?_; simp only [zS0, zS1, zTn, Nat.reduceAdd, Nat.reduceMul, Int.reduceToNat, zG0, zG1, zG2, zCa, zCi, zCb, zCs, zCf, zCn, zCt, zCm, zCp])
              |
                first
                  | (refine' HL_q rfl rfl (QV_eql_y (Ev.tmp rfl) Ev.const ?hb) ?_; case hb => omega)
                  | (refine' HL_q rfl rfl (QV_eql_n (Ev.tmp rfl) Ev.const ?hb) ?_; case hb => omega)
                  | (refine' HL_q rfl rfl (QV_eql (Ev.tmp rfl) Ev.const) ?_)
                simp only [zS0, zS1, zTn, Nat.reduceAdd, Nat.reduceMul, Int.reduceToNat, zG0, zG1, zG2, zCa, zCi, zCb, zCs, zCf, zCn, zCt, zCm, zCp]
            first
              | (refine HL_skip rfl ?_; simp only [zS0, zS1, zTn, Nat.reduceAdd, Nat.reduceMul, Int.reduceToNat, zG0, zG1, zG2, zCa, zCi, zCb, zCs, zCf, zCn, zCt, zCm, zCp])
              |
                refine' HL_q rfl rfl (QV_pick (Ev.tmp rfl) Ev.const (Ev.tmp rfl)) ?_
                simp only [if_true, if_false, Bool.false_eq_true, reduceIte, zS0, zS1, zTn, Nat.reduceAdd, Nat.reduceMul, Int.reduceToNat, zG0, zG1, zG2, zCa, zCi, zCb, zCs, zCf, zCn, zCt, zCm, zCp]
            refine' HL_q rfl rfl (QV_pick (Ev.tmp rfl) (Ev.tmp rfl) Ev.const) ?_
            simp only [if_true, if_false, Bool.false_eq_true, reduceIte, zS0, zS1, zTn, Nat.reduceAdd, Nat.reduceMul, Int.reduceToNat, zG0, zG1, zG2, zCa, zCi, zCb, zCs, zCf, zCn, zCt, zCm, zCp]
            refine' HL_q rfl rfl (QV_assign (Ev.tmp rfl)) ?_
            simp only [zS0, zS1, zTn, Nat.reduceAdd, Nat.reduceMul, Int.reduceToNat, zG0, zG1, zG2, zCa, zCi, zCb, zCs, zCf, zCn, zCt, zCm, zCp]
            refine HL_nil ?_
            refine hN15 _ _ ?_
            try clear hN15 N15
            refine HC_ret ?_
            try simp only [thenK, blockK]
            refine kr _ _ ?_
            refine' Lv_tmp rfl rfl ?post ?le
            case post => exact ⟨rfl, rfl⟩
            case le => (first | with_reducible exact Le.refl | (refine Le.of ?_; (repeat (first | with_reducible exact Sp.refl | with_reducible exact Sp.nil | (apply Sp.pick; focus ((repeat (first | with_reducible exact Rm.head | with_reducible apply Rm.tail)); done)) | with_reducible refine Sp.drop ?_))))
        · exact absurd hok hno
      · rcases hs2 with ⟨hno2, rfl, rfl⟩ | ⟨_, p, k2, m2, hor2⟩
        · exact absurd ⟨ok1, ok2⟩ hno2
        · obtain ⟨q1, q2⟩ := (mayR_iff _).1 ok2
          simp only at q1 q2
          obtain ⟨q, hq⟩ : ∃ q, memR n l = q := ⟨_, rfl⟩
          have n1 := m1 n
          have n2 := m2 n
          rw [hinb, hq] at n1 n2
          clear m1 m2 hinb hinb'
          refine HC_mid [] [false, false, false, false, false, false, true, false, false, false, false, false, false, false, false, false, false, false, false, false, false, false, false, false, false, false, false, false, false, false, false, false, false, false, false, false, false, false, false, false, false, false, false, false, false, false, false, false, true, true, true, true, true, true, true, true, true, true, true, true, true, true, true, true, true, true, true] (fun vs RR => vs = [] ∧ RR = own 67 2 (.slice A2 o2.length c2) o2.length (rgC o2) :: own 67 2 (.slice A1 o1.length c1) o1.length (rgC o1) :: pt g4 (.cells #[.int .u64 (x : Nat), .int .u64 (y : Nat)] 67 (0, 0)) :: R0) (fun NM8 hM8 => ?first) ?rest
          case first =>
            rcases hor1 with ⟨h1, rfl, rfl⟩ | ⟨h1, rfl, rfl⟩
            · skip
              refine HC_seq fun N9 hN9 => ?_
              refine HC_region ?_
              refine' HL_q rfl rfl (QV_move (Ev.tmp rfl)) ?_
              simp only [zS0, zS1, zTn, Nat.reduceAdd, Nat.reduceMul, Int.reduceToNat, zG0, zG1, zG2, zCa, zCi, zCb, zCs, zCf, zCn, zCt, zCm, zCp, n1, n2, hq]
              first
                | (refine' HL_q rfl rfl (QV_eql_y (Ev.tmp rfl) Ev.const ?hb) ?_; case hb => omega)
                | (refine' HL_q rfl rfl (QV_eql_n (Ev.tmp rfl) Ev.const ?hb) ?_; case hb => omega)
                | (refine' HL_q rfl rfl (QV_eql (Ev.tmp rfl) Ev.const) ?_)
              simp only [zS0, zS1, zTn, Nat.reduceAdd, Nat.reduceMul, Int.reduceToNat, zG0, zG1, zG2, zCa, zCi, zCb, zCs, zCf, zCn, zCt, zCm, zCp, n1, n2, hq]
              refine' HL_q rfl rfl (QV_move (Ev.tmp rfl)) ?_
              simp only [zS0, zS1, zTn, Nat.reduceAdd, Nat.reduceMul, Int.reduceToNat, zG0, zG1, zG2, zCa, zCi, zCb, zCs, zCf, zCn, zCt, zCm, zCp, n1, n2, hq]
              first
                | (refine HL_skip rfl ?_; simp only [zS0, zS1, zTn, Nat.reduceAdd, Nat.reduceMul, Int.reduceToNat, zG0, zG1, zG2, zCa, zCi, zCb, zCs, zCf, zCn, zCt, zCm, zCp, n1, n2, hq])
                |
                  refine' HL_q rfl rfl (QV_move (Ev.tmp rfl)) ?_
                  simp only [zS0, zS1, zTn, Nat.reduceAdd, Nat.reduceMul, Int.reduceToNat, zG0, zG1, zG2, zCa, zCi, zCb, zCs, zCf, zCn, zCt, zCm, zCp, n1, n2, hq]
              first
                | (refine HL_skip rfl ?_; simp only [zS0, zS1, zTn, Nat.reduceAdd, Nat.reduceMul, Int.reduceToNat, zG0, zG1, zG2, zCa, zCi, zCb, zCs, zCf, zCn, zCt, zCm, zCp, n1, n2, hq])
                |
                  refine' HL_call rfl en45 (call_fn (EvL.cons (Ev.tmp rfl) EvL.nil).evs) ((check_calls (l := o1) (hl1.sub (by (repeat (first | with_reducible exact List.Sublist.refl _ | with_reducible exact List.nil_sublist _ | with_reducible apply List.Sublist.cons_cons | with_reducible apply List.Sublist.cons)))) (wide_of k1) (canon_long ⟨k1, h1⟩))) ?_
                  rintro _ _ ⟨b, rfl, hb, rfl⟩
                  obtain rfl : b = true := hb.2 ⟨k1, h1⟩
                  simp only [zS0, zS1, zTn, Nat.reduceAdd, Nat.reduceMul, Int.reduceToNat, zG0, zG1, zG2, zCa, zCi, zCb, zCs, zCf, zCn, zCt, zCm, zCp, n1, n2, hq]
              first
                | (refine HL_skip rfl ?_; simp only [zS0, zS1, zTn, Nat.reduceAdd, Nat.reduceMul, Int.reduceToNat, zG0, zG1, zG2, zCa, zCi, zCb, zCs, zCf, zCn, zCt, zCm, zCp, n1, n2, hq])
                |
                  refine' HL_q rfl rfl (QV_un (Ev.tmp rfl) ?hr) ?_
                  case hr => intro w; first | (go_simp; done) | (go_simp; rfl)
                  simp only [zS0, zS1, zTn, Nat.reduceAdd, Nat.reduceMul, Int.reduceToNat, zG0, zG1, zG2, zCa, zCi, zCb, zCs, zCf, zCn, zCt, zCm, zCp, n1, n2, hq]
              first
                | (refine HL_skip rfl ?_; simp only [zS0, zS1, zTn, Nat.reduceAdd, Nat.reduceMul, Int.reduceToNat, zG0, zG1, zG2, zCa, zCi, zCb, zCs, zCf, zCn, zCt, zCm, zCp, n1, n2, hq])
                |
                  refine' HL_q rfl rfl (QV_move (Ev.tmp rfl)) ?_
                  simp only [zS0, zS1, zTn, Nat.reduceAdd, Nat.reduceMul, Int.reduceToNat, zG0, zG1, zG2, zCa, zCi, zCb, zCs, zCf, zCn, zCt, zCm, zCp, n1, n2, hq]
              first
                | (refine HL_skip rfl ?_; simp only [zS0, zS1, zTn, Nat.reduceAdd, Nat.reduceMul, Int.reduceToNat, zG0, zG1, zG2, zCa, zCi, zCb, zCs, zCf, zCn, zCt, zCm, zCp, n1, n2, hq])
                |
                  refine' HL_q rfl rfl (QV_move (Ev.tmp rfl)) ?_
                  simp only [zS0, zS1, zTn, Nat.reduceAdd, Nat.reduceMul, Int.reduceToNat, zG0, zG1, zG2, zCa, zCi, zCb, zCs, zCf, zCn, zCt, zCm, zCp, n1, n2, hq]
              first
                | (refine HL_skip rfl ?_; simp only [zS0, zS1, zTn, Nat.reduceAdd, Nat.reduceMul, Int.reduceToNat, zG0, zG1, zG2, zCa, zCi, zCb, zCs, zCf, zCn, zCt, zCm, zCp, n1, n2, hq])
                |
                  refine' HL_q rfl rfl (QV_move (Ev.tmp rfl)) ?_
                  simp only [zS0, zS1, zTn, Nat.reduceAdd, Nat.reduceMul, Int.reduceToNat, zG0, zG1, zG2, zCa, zCi, zCb, zCs, zCf, zCn, zCt, zCm, zCp, n1, n2, hq]
              first
                | (refine HL_skip rfl ?_; simp only [zS0, zS1, zTn, Nat.reduceAdd, Nat.reduceMul, Int.reduceToNat, zG0, zG1, zG2, zCa, zCi, zCb, zCs, zCf, zCn, zCt, zCm, zCp, n1, n2, hq])
                |
                  refine' HL_call rfl en46 (call_fn (EvL.cons (Ev.tmp rfl) (EvL.cons (Ev.tmp rfl) EvL.nil)).evs) ((has_calls (l := o1) (n := n) (hl1.sub (by (repeat (first | with_reducible exact List.Sublist.refl _ | with_reducible exact List.nil_sublist _ | with_reducible apply List.Sublist.cons_cons | with_reducible apply List.Sublist.cons)))) (canon_long ⟨k1, h1⟩))) ?_
                  rintro _ _ ⟨rfl, rfl⟩
                  simp only [zS0, zS1, zTn, Nat.reduceAdd, Nat.reduceMul, Int.reduceToNat, zG0, zG1, zG2, zCa, zCi, zCb, zCs, zCf, zCn, zCt, zCm, zCp, n1, n2, hq]
              first
                | (refine HL_skip rfl ?_; simp only [zS0, zS1, zTn, Nat.reduceAdd, Nat.reduceMul, Int.reduceToNat, zG0, zG1, zG2, zCa, zCi, zCb, zCs, zCf, zCn, zCt, zCm, zCp, n1, n2, hq])
                |
                  refine' HL_q rfl rfl (QV_move (Ev.tmp rfl)) ?_
                  simp only [zS0, zS1, zTn, Nat.reduceAdd, Nat.reduceMul, Int.reduceToNat, zG0, zG1, zG2, zCa, zCi, zCb, zCs, zCf, zCn, zCt, zCm, zCp, n1, n2, hq]
              first
                | (refine HL_skip rfl ?_; simp only [zS0, zS1, zTn, Nat.reduceAdd, Nat.reduceMul, Int.reduceToNat, zG0, zG1, zG2, zCa, zCi, zCb, zCs, zCf, zCn, zCt, zCm, zCp, n1, n2, hq])
                |
                  refine' HL_q rfl rfl (QV_move (Ev.tmp rfl)) ?_
                  simp only [zS0, zS1, zTn, Nat.reduceAdd, Nat.reduceMul, Int.reduceToNat, zG0, zG1, zG2, zCa, zCi, zCb, zCs, zCf, zCn, zCt, zCm, zCp, n1, n2, hq]
              first
                | (refine HL_skip rfl ?_; simp only [zS0, zS1, zTn, Nat.reduceAdd, Nat.reduceMul, Int.reduceToNat, zG0, zG1, zG2, zCa, zCi, zCb, zCs, zCf, zCn, zCt, zCm, zCp, n1, n2, hq])
                |
                  refine' HL_q rfl rfl (QV_move (Ev.tmp rfl)) ?_
                  simp only [zS0, zS1, zTn, Nat.reduceAdd, Nat.reduceMul, Int.reduceToNat, zG0, zG1, zG2, zCa, zCi, zCb, zCs, zCf, zCn, zCt, zCm, zCp, n1, n2, hq]
              first
                | (refine HL_skip rfl ?_; simp only [zS0, zS1, zTn, Nat.reduceAdd, Nat.reduceMul, Int.reduceToNat, zG0, zG1, zG2, zCa, zCi, zCb, zCs, zCf, zCn, zCt, zCm, zCp, n1, n2, hq])
                |
                  refine' HL_q rfl rfl (QV_move (Ev.tmp rfl)) ?_
                  simp only [zS0, zS1, zTn, Nat.reduceAdd, Nat.reduceMul, Int.reduceToNat, zG0, zG1, zG2, zCa, zCi, zCb, zCs, zCf, zCn, zCt, zCm, zCp, n1, n2, hq]
              first
                | (refine HL_skip rfl ?_; simp only [zS0, zS1, zTn, Nat.reduceAdd, Nat.reduceMul, Int.reduceToNat, zG0, zG1, zG2, zCa, zCi, zCb, zCs, zCf, zCn, zCt, zCm, zCp, n1, n2, hq])
                |
                  refine' HL_call rfl en46 (call_fn (EvL.cons (Ev.tmp rfl) (EvL.cons (Ev.tmp rfl) EvL.nil)).evs) ((has_calls (l := l) (n := n) (hs' _) hl)) ?_
                  rintro _ _ ⟨rfl, rfl⟩
                  simp only [zS0, zS1, zTn, Nat.reduceAdd, Nat.reduceMul, Int.reduceToNat, zG0, zG1, zG2, zCa, zCi, zCb, zCs, zCf, zCn, zCt, zCm, zCp, n1, n2, hq]
              first
                | (refine HL_skip rfl ?_; simp only [zS0, zS1, zTn, Nat.reduceAdd, Nat.reduceMul, Int.reduceToNat, zG0, zG1, zG2, zCa, zCi, zCb, zCs, zCf, zCn, zCt, zCm, zCp, n1, n2, hq])
                |
                  refine' HL_q rfl rfl (QV_pick (Ev.tmp rfl) Ev.const (Ev.tmp rfl)) ?_
                  simp only [if_true, if_false, Bool.false_eq_true, reduceIte, zS0, zS1, zTn, Nat.reduceAdd, Nat.reduceMul, Int.reduceToNat, zG0, zG1, zG2, zCa, zCi, zCb, zCs, zCf, zCn, zCt, zCm, zCp, n1, n2, hq]
              first
                | (refine HL_skip rfl ?_; simp only [zS0, zS1, zTn, Nat.reduceAdd, Nat.reduceMul, Int.reduceToNat, zG0, zG1, zG2, zCa, zCi, zCb, zCs, zCf, zCn, zCt, zCm, zCp, n1, n2, hq])
                |
                  refine' HL_q rfl rfl (QV_bin (Ev.tmp rfl) (Ev.tmp rfl) ?hr) ?_
                  case hr => intro w; first | (go_simp; done) | (go_simp; rfl)
                  simp only [zS0, zS1, zTn, Nat.reduceAdd, Nat.reduceMul, Int.reduceToNat, zG0, zG1, zG2, zCa, zCi, zCb, zCs, zCf, zCn, zCt, zCm, zCp, n1, n2, hq]
              first
                | (refine HL_skip rfl ?_; simp only [zS0, zS1, zTn, Nat.reduceAdd, Nat.reduceMul, Int.reduceToNat, zG0, zG1, zG2, zCa, zCi, zCb, zCs, zCf, zCn, zCt, zCm, zCp, n1, n2, hq])
                |
                  refine' HL_q rfl rfl (QV_pick (Ev.tmp rfl) Ev.const (Ev.tmp rfl)) ?_
                  simp only [if_true, if_false, Bool.false_eq_true, reduceIte, zS0, zS1, zTn, Nat.reduceAdd, Nat.reduceMul, Int.reduceToNat, zG0, zG1, zG2, zCa, zCi, zCb, zCs, zCf, zCn, zCt, zCm, zCp, n1, n2, hq]
              refine' HL_q rfl rfl (QV_pick (Ev.tmp rfl) (Ev.tmp rfl) Ev.const) ?_
              simp only [if_true, if_false, Bool.false_eq_true, reduceIte, zS0, zS1, zTn, Nat.reduceAdd, Nat.reduceMul, Int.reduceToNat, zG0, zG1, zG2, zCa, zCi, zCb, zCs, zCf, zCn, zCt, zCm, zCp, n1, n2, hq]
              refine HL_nil ?_
              refine hN9 _ _ ?_
              try clear hN9 N9
              refine HC_false rfl ?_
              refine HC_skip ?_
              try simp only [thenK]
              refine' meetM hM8 Gets.nil ?ag4 ?le ⟨rfl, rfl⟩
              case ag4 => (simp only [setL, List.set_cons_zero, List.set_cons_succ]; exact (Ag.keep (Ag.keep (Ag.keep (Ag.keep (Ag.keep (Ag.keep (Ag.any (Ag.keep (Ag.keep (Ag.keep (Ag.keep (Ag.keep (Ag.keep (Ag.keep (Ag.keep (Ag.keep (Ag.keep (Ag.keep (Ag.keep (Ag.keep (Ag.keep (Ag.keep (Ag.keep (Ag.keep (Ag.keep (Ag.keep (Ag.keep (Ag.keep (Ag.keep (Ag.keep (Ag.keep (Ag.keep (Ag.keep (Ag.keep (Ag.keep (Ag.keep (Ag.keep (Ag.keep (Ag.keep (Ag.keep (Ag.keep (Ag.keep (Ag.keep (Ag.keep (Ag.keep (Ag.keep (Ag.keep (Ag.keep (Ag.any (Ag.any (Ag.any (Ag.any (Ag.any (Ag.any (Ag.any (Ag.any (Ag.any (Ag.any (Ag.any (Ag.any (Ag.any (Ag.any (Ag.any (Ag.any (Ag.any (Ag.any (Ag.any Ag.nil))))))))))))))))))))))))))))))))))))))))))))))))))))))))))))))))))))
              case le => (first | with_reducible exact Le.refl | (refine Le.of ?_; (repeat (first | with_reducible exact Sp.refl | with_reducible exact Sp.nil | (apply Sp.pick; focus ((repeat (first | with_reducible exact Rm.head | with_reducible apply Rm.tail)); done)) | with_reducible refine Sp.drop ?_))))
            · cases inb <;> cases q <;> simp only [Bool.or_true, Bool.or_false, Bool.true_and, Bool.false_and, Bool.and_true, Bool.and_false, Bool.not_true, Bool.not_false, Bool.or_self, Bool.true_or, Bool.false_or] at n1 n2
              all_goals
                refine HC_seq fun N9 hN9 => ?_
                refine HC_region ?_
                refine' HL_q rfl rfl (QV_move (Ev.tmp rfl)) ?_
                simp only [zS0, zS1, zTn, Nat.reduceAdd, Nat.reduceMul, Int.reduceToNat, zG0, zG1, zG2, zCa, zCi, zCb, zCs, zCf, zCn, zCt, zCm, zCp, n1, n2, hq]
                first
                  | (refine' HL_q rfl rfl (QV_eql_y (Ev.tmp rfl) Ev.const ?hb) ?_; case hb => omega)
                  | (refine' HL_q rfl rfl (QV_eql_n (Ev.tmp rfl) Ev.const ?hb) ?_; case hb => omega)
                  | (refine' HL_q rfl rfl (QV_eql (Ev.tmp rfl) Ev.const) ?_)
                simp only [zS0, zS1, zTn, Nat.reduceAdd, Nat.reduceMul, Int.reduceToNat, zG0, zG1, zG2, zCa, zCi, zCb, zCs, zCf, zCn, zCt, zCm, zCp, n1, n2, hq]
                refine' HL_q rfl rfl (QV_move (Ev.tmp rfl)) ?_
                simp only [zS0, zS1, zTn, Nat.reduceAdd, Nat.reduceMul, Int.reduceToNat, zG0, zG1, zG2, zCa, zCi, zCb, zCs, zCf, zCn, zCt, zCm, zCp, n1, n2, hq]
                first
                  | (refine HL_skip rfl ?_; simp only [zS0, zS1, zTn, Nat.reduceAdd, Nat.reduceMul, Int.reduceToNat, zG0, zG1, zG2, zCa, zCi, zCb, zCs, zCf, zCn, zCt, zCm, zCp, n1, n2, hq])
                  |
                    refine' HL_q rfl rfl (QV_move (Ev.tmp rfl)) ?_
                    simp only [zS0, zS1, zTn, Nat.reduceAdd, Nat.reduceMul, Int.reduceToNat, zG0, zG1, zG2, zCa, zCi, zCb, zCs, zCf, zCn, zCt, zCm, zCp, n1, n2, hq]
                first
                  | (refine HL_skip rfl ?_; simp only [zS0, zS1, zTn, Nat.reduceAdd, Nat.reduceMul, Int.reduceToNat, zG0, zG1, zG2, zCa, zCi, zCb, zCs, zCf, zCn, zCt, zCm, zCp, n1, n2, hq])
                  |
                    refine' HL_call rfl en45 (call_fn (EvL.cons (Ev.tmp rfl) EvL.nil).evs) ((check_calls (l := o1) (hl1.sub (by (repeat (first | with_reducible exact List.Sublist.refl _ | with_reducible exact List.nil_sublist _ | with_reducible apply List.Sublist.cons_cons | with_reducible apply List.Sublist.cons)))) (wide_of k1) (canon_long ⟨k1, h1⟩))) ?_
                    rintro _ _ ⟨b, rfl, hb, rfl⟩
                    obtain rfl : b = true := hb.2 ⟨k1, h1⟩
                    simp only [zS0, zS1, zTn, Nat.reduceAdd, Nat.reduceMul, Int.reduceToNat, zG0, zG1, zG2, zCa, zCi, zCb, zCs, zCf, zCn, zCt, zCm, zCp, n1, n2, hq]
                first
                  | (refine HL_skip rfl ?_; simp only [zS0, zS1, zTn, Nat.reduceAdd, Nat.reduceMul, Int.reduceToNat, zG0, zG1, zG2, zCa, zCi, zCb, zCs, zCf, zCn, zCt, zCm, zCp, n1, n2, hq])
                  |
                    refine' HL_q rfl rfl (QV_un (Ev.tmp rfl) ?hr) ?_
                    case hr => intro w; first | (go_simp; done) | (go_simp; rfl)
                    simp only [zS0, zS1, zTn, Nat.reduceAdd, Nat.reduceMul, Int.reduceToNat, zG0, zG1, zG2, zCa, zCi, zCb, zCs, zCf, zCn, zCt, zCm, zCp, n1, n2, hq]
                first
                  | (refine HL_skip rfl ?_; simp only [zS0, zS1, zTn, Nat.reduceAdd, Nat.reduceMul, Int.reduceToNat, zG0, zG1, zG2, zCa, zCi, zCb, zCs, zCf, zCn, zCt, zCm, zCp, n1, n2, hq])
                  |
                    refine' HL_q rfl rfl (QV_move (Ev.tmp rfl)) ?_
                    simp only [zS0, zS1, zTn, Nat.reduceAdd, Nat.reduceMul, Int.reduceToNat, zG0, zG1, zG2, zCa, zCi, zCb, zCs, zCf, zCn, zCt, zCm, zCp, n1, n2, hq]
                first
                  | (refine HL_skip rfl ?_; simp only [zS0, zS1, zTn, Nat.reduceAdd, Nat.reduceMul, Int.reduceToNat, zG0, zG1, zG2, zCa, zCi, zCb, zCs, zCf, zCn, zCt, zCm, zCp, n1, n2, hq])
                  |
                    refine' HL_q rfl rfl (QV_move (Ev.tmp rfl)) ?_
                    simp only [zS0, zS1, zTn, Nat.reduceAdd, Nat.reduceMul, Int.reduceToNat, zG0, zG1, zG2, zCa, zCi, zCb, zCs, zCf, zCn, zCt, zCm, zCp, n1, n2, hq]
                first
                  | (refine HL_skip rfl ?_; simp only [zS0, zS1, zTn, Nat.reduceAdd, Nat.reduceMul, Int.reduceToNat, zG0, zG1, zG2, zCa, zCi, zCb, zCs, zCf, zCn, zCt, zCm, zCp, n1, n2, hq])
                  |
                    refine' HL_q rfl rfl (QV_move (Ev.tmp rfl)) ?_
                    simp only [zS0, zS1, zTn, Nat.reduceAdd, Nat.reduceMul, Int.reduceToNat, zG0, zG1, zG2, zCa, zCi, zCb, zCs, zCf, zCn, zCt, zCm, zCp, n1, n2, hq]
                first
                  | (refine HL_skip rfl ?_; simp only [zS0, zS1, zTn, Nat.reduceAdd, Nat.reduceMul, Int.reduceToNat, zG0, zG1, zG2, zCa, zCi, zCb, zCs, zCf, zCn, zCt, zCm, zCp, n1, n2, hq])
                  |
                    refine' HL_call rfl en46 (call_fn (EvL.cons (Ev.tmp rfl) (EvL.cons (Ev.tmp rfl) EvL.nil)).evs) ((has_calls (l := o1) (n := n) (hl1.sub (by (repeat (first | with_reducible exact List.Sublist.refl _ | with_reducible exact List.nil_sublist _ | with_reducible apply List.Sublist.cons_cons | with_reducible apply List.Sublist.cons)))) (canon_long ⟨k1, h1⟩))) ?_
                    rintro _ _ ⟨rfl, rfl⟩
                    simp only [zS0, zS1, zTn, Nat.reduceAdd, Nat.reduceMul, Int.reduceToNat, zG0, zG1, zG2, zCa, zCi, zCb, zCs, zCf, zCn, zCt, zCm, zCp, n1, n2, hq]
                first
                  | (refine HL_skip rfl ?_; simp only [zS0, zS1, zTn, Nat.reduceAdd, Nat.reduceMul, Int.reduceToNat, zG0, zG1, zG2, zCa, zCi, zCb, zCs, zCf, zCn, zCt, zCm, zCp, n1, n2, hq])
                  |
                    refine' HL_q rfl rfl (QV_move (Ev.tmp rfl)) ?_
                    simp only [zS0, zS1, zTn, Nat.reduceAdd, Nat.reduceMul, Int.reduceToNat, zG0, zG1, zG2, zCa, zCi, zCb, zCs, zCf, zCn, zCt, zCm, zCp, n1, n2, hq]
                first
                  | (refine HL_skip rfl ?_; simp only [zS0, zS1, zTn, Nat.reduceAdd, Nat.reduceMul, Int.reduceToNat, zG0, zG1, zG2, zCa, zCi, zCb, zCs, zCf, zCn, zCt, zCm, zCp, n1, n2, hq])
                  |
                    refine' HL_q rfl rfl (QV_move (Ev.tmp rfl)) ?_
                    simp only [zS0, zS1, zTn, Nat.reduceAdd, Nat.reduceMul, Int.reduceToNat, zG0, zG1, zG2, zCa, zCi, zCb, zCs, zCf, zCn, zCt, zCm, zCp, n1, n2, hq]
                first
                  | (refine HL_skip rfl ?_; simp only [zS0, zS1, zTn, Nat.reduceAdd, Nat.reduceMul, Int.reduceToNat, zG0, zG1, zG2, zCa, zCi, zCb, zCs, zCf, zCn, zCt, zCm, zCp, n1, n2, hq])
                  |
                    refine' HL_q rfl rfl (QV_move (Ev.tmp rfl)) ?_
                    simp only [zS0, zS1, zTn, Nat.reduceAdd, Nat.reduceMul, Int.reduceToNat, zG0, zG1, zG2, zCa, zCi, zCb, zCs, zCf, zCn, zCt, zCm, zCp, n1, n2, hq]
                first
                  | (refine HL_skip rfl ?_; simp only [zS0, zS1, zTn, Nat.reduceAdd, Nat.reduceMul, Int.reduceToNat, zG0, zG1, zG2, zCa, zCi, zCb, zCs, zCf, zCn, zCt, zCm, zCp, n1, n2, hq])
                  |
                    refine' HL_q rfl rfl (QV_move (Ev.tmp rfl)) ?_
                    simp only [zS0, zS1, zTn, Nat.reduceAdd, Nat.reduceMul, Int.reduceToNat, zG0, zG1, zG2, zCa, zCi, zCb, zCs, zCf, zCn, zCt, zCm, zCp, n1, n2, hq]
                first
                  | (refine HL_skip rfl ?_; simp only [zS0, zS1, zTn, Nat.reduceAdd, Nat.reduceMul, Int.reduceToNat, zG0, zG1, zG2, zCa, zCi, zCb, zCs, zCf, zCn, zCt, zCm, zCp, n1, n2, hq])
                  |
                    refine' HL_call rfl en46 (call_fn (EvL.cons (Ev.tmp rfl) (EvL.cons (Ev.tmp rfl) EvL.nil)).evs) ((has_calls (l := l) (n := n) (hs' _) hl)) ?_
                    rintro _ _ ⟨rfl, rfl⟩
                    simp only [zS0, zS1, zTn, Nat.reduceAdd, Nat.reduceMul, Int.reduceToNat, zG0, zG1, zG2, zCa, zCi, zCb, zCs, zCf, zCn, zCt, zCm, zCp, n1, n2, hq]
                first
                  | (refine HL_skip rfl ?_; simp only [zS0, zS1, zTn, Nat.reduceAdd, Nat.reduceMul, Int.reduceToNat, zG0, zG1, zG2, zCa, zCi, zCb, zCs, zCf, zCn, zCt, zCm, zCp, n1, n2, hq])
                  |
                    refine' HL_q rfl rfl (QV_pick (Ev.tmp rfl) Ev.const (Ev.tmp rfl)) ?_
                    simp only [if_true, if_false, Bool.false_eq_true, reduceIte, zS0, zS1, zTn, Nat.reduceAdd, Nat.reduceMul, Int.reduceToNat, zG0, zG1, zG2, zCa, zCi, zCb, zCs, zCf, zCn, zCt, zCm, zCp, n1, n2, hq]
                first
                  | (refine HL_skip rfl ?_; simp only [zS0, zS1, zTn, Nat.reduceAdd, Nat.reduceMul, Int.reduceToNat, zG0, zG1, zG2, zCa, zCi, zCb, zCs, zCf, zCn, zCt, zCm, zCp, n1, n2, hq])
                  |
                    refine' HL_q rfl rfl (QV_bin (Ev.tmp rfl) (Ev.tmp rfl) ?hr) ?_
                    case hr => intro w; first | (go_simp; done) | (go_simp; rfl)
                    simp only [zS0, zS1, zTn, Nat.reduceAdd, Nat.reduceMul, Int.reduceToNat, zG0, zG1, zG2, zCa, zCi, zCb, zCs, zCf, zCn, zCt, zCm, zCp, n1, n2, hq]
                first
                  | (refine HL_skip rfl ?_; simp only [zS0, zS1, zTn, Nat.reduceAdd, Nat.reduceMul, Int.reduceToNat, zG0, zG1, zG2, zCa, zCi, zCb, zCs, zCf, zCn, zCt, zCm, zCp, n1, n2, hq])
                  |
                    refine' HL_q rfl rfl (QV_pick (Ev.tmp rfl) Ev.const (Ev.tmp rfl)) ?_
                    simp only [if_true, if_false, Bool.false_eq_true, reduceIte, zS0, zS1, zTn, Nat.reduceAdd, Nat.reduceMul, Int.reduceToNat, zG0, zG1, zG2, zCa, zCi, zCb, zCs, zCf, zCn, zCt, zCm, zCp, n1, n2, hq]
                refine' HL_q rfl rfl (QV_pick (Ev.tmp rfl) (Ev.tmp rfl) Ev.const) ?_
                simp only [if_true, if_false, Bool.false_eq_true, reduceIte, zS0, zS1, zTn, Nat.reduceAdd, Nat.reduceMul, Int.reduceToNat, zG0, zG1, zG2, zCa, zCi, zCb, zCs, zCf, zCn, zCt, zCm, zCp, n1, n2, hq]
                refine HL_nil ?_
                refine hN9 _ _ ?_
                try clear hN9 N9
                refine HC_false rfl ?_
                refine HC_skip ?_
                try simp only [thenK]
                refine' meetM hM8 Gets.nil ?ag5 ?le ⟨rfl, rfl⟩
                case ag5 => (simp only [setL, List.set_cons_zero, List.set_cons_succ]; exact (Ag.keep (Ag.keep (Ag.keep (Ag.keep (Ag.keep (Ag.keep (Ag.any (Ag.keep (Ag.keep (Ag.keep (Ag.keep (Ag.keep (Ag.keep (Ag.keep (Ag.keep (Ag.keep (Ag.keep (Ag.keep (Ag.keep (Ag.keep (Ag.keep (Ag.keep (Ag.keep (Ag.keep (Ag.keep (Ag.keep (Ag.keep (Ag.keep (Ag.keep (Ag.keep (Ag.keep (Ag.keep (Ag.keep (Ag.keep (Ag.keep (Ag.keep (Ag.keep (Ag.keep (Ag.keep (Ag.keep (Ag.keep (Ag.keep (Ag.keep (Ag.keep (Ag.keep (Ag.keep (Ag.keep (Ag.keep (Ag.any (Ag.any (Ag.any (Ag.any (Ag.any (Ag.any (Ag.any (Ag.any (Ag.any (Ag.any (Ag.any (Ag.any (Ag.any (Ag.any (Ag.any (Ag.any (Ag.any (Ag.any (Ag.any Ag.nil))))))))))))))))))))))))))))))))))))))))))))))))))))))))))))))))))))
                case le => (first | with_reducible exact Le.refl | (refine Le.of ?_; (repeat (first | with_reducible exact Sp.refl | with_reducible exact Sp.nil | (apply Sp.pick; focus ((repeat (first | with_reducible exact Rm.head | with_reducible apply Rm.tail)); done)) | with_reducible refine Sp.drop ?_))))
          case rest =>
            rintro _ _ u ⟨rfl, rfl⟩
            simp only [setL, fill, List.set_cons_zero, List.set_cons_succ, Nat.reduceAdd]
            refine HC_mid [] [false, false, false, false, false, false, true, false, false, false, false, false, false, false, false, false, false, false, false, false, false, false, false, false, false, false, false, false, false, false, false, false, false, false, false, false, false, false, false, false, false, false, false, false, false, false, false, false, false, false, false, false, false, false, false, false, false, false, false, false, false, false, false, false, false, false, false, true, true, true, true, true, true, true, true, true, true, true, true, true, true, true, true, true, true, true, true] (fun vs RR => vs = [] ∧ RR = own 67 2 (.slice A2 o2.length c2) o2.length (rgC o2) :: own 67 2 (.slice A1 o1.length c1) o1.length (rgC o1) :: pt g4 (.cells #[.int .u64 (x : Nat), .int .u64 (y : Nat)] 67 (0, 0)) :: R0) (fun NM11 hM11 => ?first) ?rest
            case first =>
              rcases hor2 with ⟨h2, rfl, rfl⟩ | ⟨h2, rfl, rfl⟩
              · skip
                refine HC_seq fun N12 hN12 => ?_
                refine HC_region ?_
                refine' HL_q rfl rfl (QV_move (Ev.tmp rfl)) ?_
                simp only [zS0, zS1, zTn, Nat.reduceAdd, Nat.reduceMul, Int.reduceToNat, zG0, zG1, zG2, zCa, zCi, zCb, zCs, zCf, zCn, zCt, zCm, zCp, n1, n2, hq]
                first
                  | (refine' HL_q rfl rfl (QV_eql_y (Ev.tmp rfl) Ev.const ?hb) ?_; case hb => omega)
                  | (refine' HL_q rfl rfl (QV_eql_n (Ev.tmp rfl) Ev.const ?hb) ?_; case hb => omega)
                  | (refine' HL_q rfl rfl (QV_eql (Ev.tmp rfl) Ev.const) ?_)
                simp only [zS0, zS1, zTn, Nat.reduceAdd, Nat.reduceMul, Int.reduceToNat, zG0, zG1, zG2, zCa, zCi, zCb, zCs, zCf, zCn, zCt, zCm, zCp, n1, n2, hq]
                refine' HL_q rfl rfl (QV_move (Ev.tmp rfl)) ?_
                simp only [zS0, zS1, zTn, Nat.reduceAdd, Nat.reduceMul, Int.reduceToNat, zG0, zG1, zG2, zCa, zCi, zCb, zCs, zCf, zCn, zCt, zCm, zCp, n1, n2, hq]
                first
                  | (refine HL_skip rfl ?_; simp only [zS0, zS1, zTn, Nat.reduceAdd, Nat.reduceMul, Int.reduceToNat, zG0, zG1, zG2, zCa, zCi, zCb, zCs, zCf, zCn, zCt, zCm, zCp, n1, n2, hq])
                  |
                    refine' HL_q rfl rfl (QV_move (Ev.tmp rfl)) ?_
                    simp only [zS0, zS1, zTn, Nat.reduceAdd, Nat.reduceMul, Int.reduceToNat, zG0, zG1, zG2, zCa, zCi, zCb, zCs, zCf, zCn, zCt, zCm, zCp, n1, n2, hq]
                first
                  | (refine HL_skip rfl ?_; simp only [zS0, zS1, zTn, Nat.reduceAdd, Nat.reduceMul, Int.reduceToNat, zG0, zG1, zG2, zCa, zCi, zCb, zCs, zCf, zCn, zCt, zCm, zCp, n1, n2, hq])
                  |
                    refine' HL_call rfl en45 (call_fn (EvL.cons (Ev.tmp rfl) EvL.nil).evs) ((check_calls (l := o2) (hl2.sub (by (repeat (first | with_reducible exact List.Sublist.refl _ | with_reducible exact List.nil_sublist _ | with_reducible apply List.Sublist.cons_cons | with_reducible apply List.Sublist.cons)))) (wide_of k2) (canon_long ⟨k2, h2⟩))) ?_
                    rintro _ _ ⟨b, rfl, hb, rfl⟩
                    obtain rfl : b = true := hb.2 ⟨k2, h2⟩
                    simp only [zS0, zS1, zTn, Nat.reduceAdd, Nat.reduceMul, Int.reduceToNat, zG0, zG1, zG2, zCa, zCi, zCb, zCs, zCf, zCn, zCt, zCm, zCp, n1, n2, hq]
                first
                  | (refine HL_skip rfl ?_; simp only [zS0, zS1, zTn, Nat.reduceAdd, Nat.reduceMul, Int.reduceToNat, zG0, zG1, zG2, zCa, zCi, zCb, zCs, zCf, zCn, zCt, zCm, zCp, n1, n2, hq])
                  |
                    refine' HL_q rfl rfl (QV_un (Ev.tmp rfl) ?hr) ?_
                    case hr => intro w; first | (go_simp; done) | (go_simp; rfl)
                    simp only [zS0, zS1, zTn, Nat.reduceAdd, Nat.reduceMul, Int.reduceToNat, zG0, zG1, zG2, zCa, zCi, zCb, zCs, zCf, zCn, zCt, zCm, zCp, n1, n2, hq]
                first
                  | (refine HL_skip rfl ?_; simp only [zS0, zS1, zTn, Nat.reduceAdd, Nat.reduceMul, Int.reduceToNat, zG0, zG1, zG2, zCa, zCi, zCb, zCs, zCf, zCn, zCt, zCm, zCp, n1, n2, hq])
                  |
                    refine' HL_q rfl rfl (QV_move (Ev.tmp rfl)) ?_
                    simp only [zS0, zS1, zTn, Nat.reduceAdd, Nat.reduceMul, Int.reduceToNat, zG0, zG1, zG2, zCa, zCi, zCb, zCs, zCf, zCn, zCt, zCm, zCp, n1, n2, hq]
                first
                  | (refine HL_skip rfl ?_; simp only [zS0, zS1, zTn, Nat.reduceAdd, Nat.reduceMul, Int.reduceToNat, zG0, zG1, zG2, zCa, zCi, zCb, zCs, zCf, zCn, zCt, zCm, zCp, n1, n2, hq])
                  |
                    refine' HL_q rfl rfl (QV_move (Ev.tmp rfl)) ?_
                    simp only [zS0, zS1, zTn, Nat.reduceAdd, Nat.reduceMul, Int.reduceToNat, zG0, zG1, zG2, zCa, zCi, zCb, zCs, zCf, zCn, zCt, zCm, zCp, n1, n2, hq]
                first
                  | (refine HL_skip rfl ?_; simp only [zS0, zS1, zTn, Nat.reduceAdd, Nat.reduceMul, Int.reduceToNat, zG0, zG1, zG2, zCa, zCi, zCb, zCs, zCf, zCn, zCt, zCm, zCp, n1, n2, hq])
                  |
                    refine' HL_q rfl rfl (QV_move (Ev.tmp rfl)) ?_
                    simp only [zS0, zS1, zTn, Nat.reduceAdd, Nat.reduceMul, Int.reduceToNat, zG0, zG1, zG2, zCa, zCi, zCb, zCs, zCf, zCn, zCt, zCm, zCp, n1, n2, hq]
                first
                  | (refine HL_skip rfl ?_; simp only [zS0, zS1, zTn, Nat.reduceAdd, Nat.reduceMul, Int.reduceToNat, zG0, zG1, zG2, zCa, zCi, zCb, zCs, zCf, zCn, zCt, zCm, zCp, n1, n2, hq])
                  |
                    refine' HL_call rfl en46 (call_fn (EvL.cons (Ev.tmp rfl) (EvL.cons (Ev.tmp rfl) EvL.nil)).evs) ((has_calls (l := o2) (n := n) (hl2.sub (by (repeat (first | with_reducible exact List.Sublist.refl _ | with_reducible exact List.nil_sublist _ | with_reducible apply List.Sublist.cons_cons | with_reducible apply List.Sublist.cons)))) (canon_long ⟨k2, h2⟩))) ?_
                    rintro _ _ ⟨rfl, rfl⟩
                    simp only [zS0, zS1, zTn, Nat.reduceAdd, Nat.reduceMul, Int.reduceToNat, zG0, zG1, zG2, zCa, zCi, zCb, zCs, zCf, zCn, zCt, zCm, zCp, n1, n2, hq]
                first
                  | (refine HL_skip rfl ?_; simp only [zS0, zS1, zTn, Nat.reduceAdd, Nat.reduceMul, Int.reduceToNat, zG0, zG1, zG2, zCa, zCi, zCb, zCs, zCf, zCn, zCt, zCm, zCp, n1, n2, hq])
                  |
                    refine' HL_q rfl rfl (QV_move (Ev.tmp rfl)) ?_
                    simp only [zS0, zS1, zTn, Nat.reduceAdd, Nat.reduceMul, Int.reduceToNat, zG0, zG1, zG2, zCa, zCi, zCb, zCs, zCf, zCn, zCt, zCm, zCp, n1, n2, hq]
                first
                  | (refine HL_skip rfl ?_; simp only [zS0, zS1, zTn, Nat.reduceAdd, Nat.reduceMul, Int.reduceToNat, zG0, zG1, zG2, zCa, zCi, zCb, zCs, zCf, zCn, zCt, zCm, zCp, n1, n2, hq])
                  |
                    refine' HL_q rfl rfl (QV_un (Ev.tmp rfl) ?hr) ?_
                    case hr => intro w; first | (go_simp; done) | (go_simp; rfl)
                    simp only [zS0, zS1, zTn, Nat.reduceAdd, Nat.reduceMul, Int.reduceToNat, zG0, zG1, zG2, zCa, zCi, zCb, zCs, zCf, zCn, zCt, zCm, zCp, n1, n2, hq]
                first
                  | (refine HL_skip rfl ?_; simp only [zS0, zS1, zTn, Nat.reduceAdd, Nat.reduceMul, Int.reduceToNat, zG0, zG1, zG2, zCa, zCi, zCb, zCs, zCf, zCn, zCt, zCm, zCp, n1, n2, hq])
                  |
                    refine' HL_q rfl rfl (QV_move (Ev.tmp rfl)) ?_
                    simp only [zS0, zS1, zTn, Nat.reduceAdd, Nat.reduceMul, Int.reduceToNat, zG0, zG1, zG2, zCa, zCi, zCb, zCs, zCf, zCn, zCt, zCm, zCp, n1, n2, hq]
                first
                  | (refine HL_skip rfl ?_; simp only [zS0, zS1, zTn, Nat.reduceAdd, Nat.reduceMul, Int.reduceToNat, zG0, zG1, zG2, zCa, zCi, zCb, zCs, zCf, zCn, zCt, zCm, zCp, n1, n2, hq])
                  |
                    refine' HL_q rfl rfl (QV_move (Ev.tmp rfl)) ?_
                    simp only [zS0, zS1, zTn, Nat.reduceAdd, Nat.reduceMul, Int.reduceToNat, zG0, zG1, zG2, zCa, zCi, zCb, zCs, zCf, zCn, zCt, zCm, zCp, n1, n2, hq]
                first
                  | (refine HL_skip rfl ?_; simp only [zS0, zS1, zTn, Nat.reduceAdd, Nat.reduceMul, Int.reduceToNat, zG0, zG1, zG2, zCa, zCi, zCb, zCs, zCf, zCn, zCt, zCm, zCp, n1, n2, hq])
                  |
                    refine' HL_q rfl rfl (QV_move (Ev.tmp rfl)) ?_
                    simp only [zS0, zS1, zTn, Nat.reduceAdd, Nat.reduceMul, Int.reduceToNat, zG0, zG1, zG2, zCa, zCi, zCb, zCs, zCf, zCn, zCt, zCm, zCp, n1, n2, hq]
                first
                  | (refine HL_skip rfl ?_; simp only [zS0, zS1, zTn, Nat.reduceAdd, Nat.reduceMul, Int.reduceToNat, zG0, zG1, zG2, zCa, zCi, zCb, zCs, zCf, zCn, zCt, zCm, zCp, n1, n2, hq])
                  |
                    refine' HL_call rfl en46 (call_fn (EvL.cons (Ev.tmp rfl) (EvL.cons (Ev.tmp rfl) EvL.nil)).evs) ((has_calls (l := l) (n := n) (hs' _) hl)) ?_
                    rintro _ _ ⟨rfl, rfl⟩
                    simp only [zS0, zS1, zTn, Nat.reduceAdd, Nat.reduceMul, Int.reduceToNat, zG0, zG1, zG2, zCa, zCi, zCb, zCs, zCf, zCn, zCt, zCm, zCp, n1, n2, hq]
                first
                  | (refine HL_skip rfl ?_; simp only [zS0, zS1, zTn, Nat.reduceAdd, Nat.reduceMul, Int.reduceToNat, zG0, zG1, zG2, zCa, zCi, zCb, zCs, zCf, zCn, zCt, zCm, zCp, n1, n2, hq])
                  |
                    refine' HL_q rfl rfl (QV_pick (Ev.tmp rfl) (Ev.tmp rfl) Ev.const) ?_
                    simp only [if_true, if_false, Bool.false_eq_true, reduceIte, zS0, zS1, zTn, Nat.reduceAdd, Nat.reduceMul, Int.reduceToNat, zG0, zG1, zG2, zCa, zCi, zCb, zCs, zCf, zCn, zCt, zCm, zCp, n1, n2, hq]
                first
                  | (refine HL_skip rfl ?_; simp only [zS0, zS1, zTn, Nat.reduceAdd, Nat.reduceMul, Int.reduceToNat, zG0, zG1, zG2, zCa, zCi, zCb, zCs, zCf, zCn, zCt, zCm, zCp, n1, n2, hq])
                  |
                    refine' HL_q rfl rfl (QV_bin (Ev.tmp rfl) (Ev.tmp rfl) ?hr) ?_
                    case hr => intro w; first | (go_simp; done) | (go_simp; rfl)
                    simp only [zS0, zS1, zTn, Nat.reduceAdd, Nat.reduceMul, Int.reduceToNat, zG0, zG1, zG2, zCa, zCi, zCb, zCs, zCf, zCn, zCt, zCm, zCp, n1, n2, hq]
                first
                  | (refine HL_skip rfl ?_; simp only [zS0, zS1, zTn, Nat.reduceAdd, Nat.reduceMul, Int.reduceToNat, zG0, zG1, zG2, zCa, zCi, zCb, zCs, zCf, zCn, zCt, zCm, zCp, n1, n2, hq])
                  |
                    refine' HL_q rfl rfl (QV_pick (Ev.tmp rfl) Ev.const (Ev.tmp rfl)) ?_
                    simp only [if_true, if_false, Bool.false_eq_true, reduceIte, zS0, zS1, zTn, Nat.reduceAdd, Nat.reduceMul, Int.reduceToNat, zG0, zG1, zG2, zCa, zCi, zCb, zCs, zCf, zCn, zCt, zCm, zCp, n1, n2, hq]
                refine' HL_q rfl rfl (QV_pick (Ev.tmp rfl) (Ev.tmp rfl) Ev.const) ?_
                simp only [if_true, if_false, Bool.false_eq_true, reduceIte, zS0, zS1, zTn, Nat.reduceAdd, Nat.reduceMul, Int.reduceToNat, zG0, zG1, zG2, zCa, zCi, zCb, zCs, zCf, zCn, zCt, zCm, zCp, n1, n2, hq]
                refine HL_nil ?_
                refine hN12 _ _ ?_
                try clear hN12 N12
                refine HC_false rfl ?_
                refine HC_skip ?_
                try simp only [thenK]
                refine' meetM hM11 Gets.nil ?ag6 ?le ⟨rfl, rfl⟩
                case ag6 => (simp only [setL, List.set_cons_zero, List.set_cons_succ]; exact (Ag.keep (Ag.keep (Ag.keep (Ag.keep (Ag.keep (Ag.keep (Ag.any (Ag.keep (Ag.keep (Ag.keep (Ag.keep (Ag.keep (Ag.keep (Ag.keep (Ag.keep (Ag.keep (Ag.keep (Ag.keep (Ag.keep (Ag.keep (Ag.keep (Ag.keep (Ag.keep (Ag.keep (Ag.keep (Ag.keep (Ag.keep (Ag.keep (Ag.keep (Ag.keep (Ag.keep (Ag.keep (Ag.keep (Ag.keep (Ag.keep (Ag.keep (Ag.keep (Ag.keep (Ag.keep (Ag.keep (Ag.keep (Ag.keep (Ag.keep (Ag.keep (Ag.keep (Ag.keep (Ag.keep (Ag.keep (Ag.keep (Ag.keep (Ag.keep (Ag.keep (Ag.keep (Ag.keep (Ag.keep (Ag.keep (Ag.keep (Ag.keep (Ag.keep (Ag.keep (Ag.keep (Ag.keep (Ag.keep (Ag.keep (Ag.keep (Ag.keep (Ag.keep (Ag.any (Ag.any (Ag.any (Ag.any (Ag.any (Ag.any (Ag.any (Ag.any (Ag.any (Ag.any (Ag.any (Ag.any (Ag.any (Ag.any (Ag.any (Ag.any (Ag.any (Ag.any (Ag.any (Ag.any Ag.nil))))))))))))))))))))))))))))))))))))))))))))))))))))))))))))))))))))))))))))))))))))))))
                case le => (first | with_reducible exact Le.refl | (refine Le.of ?_; (repeat (first | with_reducible exact Sp.refl | with_reducible exact Sp.nil | (apply Sp.pick; focus ((repeat (first | with_reducible exact Rm.head | with_reducible apply Rm.tail)); done)) | with_reducible refine Sp.drop ?_))))
              · cases inb <;> cases q <;> simp only [Bool.or_true, Bool.or_false, Bool.true_and, Bool.false_and, Bool.and_true, Bool.and_false, Bool.not_true, Bool.not_false, Bool.or_self, Bool.true_or, Bool.false_or] at n1 n2
                all_goals
                  refine HC_seq fun N12 hN12 => ?_
                  refine HC_region ?_
                  refine' HL_q rfl rfl (QV_move (Ev.tmp rfl)) ?_
                  simp only [zS0, zS1, zTn, Nat.reduceAdd, Nat.reduceMul, Int.reduceToNat, zG0, zG1, zG2, zCa, zCi, zCb, zCs, zCf, zCn, zCt, zCm, zCp, n1, n2, hq]
                  first
                    | (refine' HL_q rfl rfl (QV_eql_y (Ev.tmp rfl) Ev.const ?hb) ?_; case hb => omega)
                    | (refine' HL_q rfl rfl (QV_eql_n (Ev.tmp rfl) Ev.const ?hb) ?_; case hb => omega)
                    | (refine' HL_q rfl rfl (QV_eql (Ev.tmp rfl) Ev.const) ?_)
                  simp only [zS0, zS1, zTn, Nat.reduceAdd, Nat.reduceMul, Int.reduceToNat, zG0, zG1, zG2, zCa, zCi, zCb, zCs, zCf, zCn, zCt, zCm, zCp, n1, n2, hq]
                  refine' HL_q rfl rfl (QV_move (Ev.tmp rfl)) ?_
                  simp only [zS0, zS1, zTn, Nat.reduceAdd, Nat.reduceMul, Int.reduceToNat, zG0, zG1, zG2, zCa, zCi, zCb, zCs, zCf, zCn, zCt, zCm, zCp, n1, n2, hq]
                  first
                    | (refine HL_skip rfl ?_; simp only [zS0, zS1, zTn, Nat.reduceAdd, Nat.reduceMul, Int.reduceToNat, zG0, zG1, zG2, zCa, zCi, zCb, zCs, zCf, zCn, zCt, zCm, zCp, n1, n2, hq])
                    |
                      refine' HL_q rfl rfl (QV_move (Ev.tmp rfl)) ?_
                      simp only [zS0, zS1, zTn, Nat.reduceAdd, Nat.reduceMul, Int.reduceToNat, zG0, zG1, zG2, zCa, zCi, zCb, zCs, zCf, zCn, zCt, zCm, zCp, n1, n2, hq]
                  first
                    | (refine HL_skip rfl ?_; simp only [zS0, zS1, zTn, Nat.reduceAdd, Nat.reduceMul, Int.reduceToNat, zG0, zG1, zG2, zCa, zCi, zCb, zCs, zCf, zCn, zCt, zCm, zCp, n1, n2, hq])
                    |
                      refine' HL_call rfl en45 (call_fn (EvL.cons (Ev.tmp rfl) EvL.nil).evs) ((check_calls (l := o2) (hl2.sub (by (repeat (first | with_reducible exact List.Sublist.refl _ | with_reducible exact List.nil_sublist _ | with_reducible apply List.Sublist.cons_cons | with_reducible apply List.Sublist.cons)))) (wide_of k2) (canon_long ⟨k2, h2⟩))) ?_
                      rintro _ _ ⟨b, rfl, hb, rfl⟩
                      obtain rfl : b = true := hb.2 ⟨k2, h2⟩
                      simp only [zS0, zS1, zTn, Nat.reduceAdd, Nat.reduceMul, Int.reduceToNat, zG0, zG1, zG2, zCa, zCi, zCb, zCs, zCf, zCn, zCt, zCm, zCp, n1, n2, hq]
                  first
                    | (refine HL_skip rfl ?_; simp only [zS0, zS1, zTn, Nat.reduceAdd, Nat.reduceMul, Int.reduceToNat, zG0, zG1, zG2, zCa, zCi, zCb, zCs, zCf, zCn, zCt, zCm, zCp, n1, n2, hq])
                    |
                      refine' HL_q rfl rfl (QV_un (Ev.tmp rfl) ?hr) ?_
                      case hr => intro w; first | (go_simp; done) | (go_simp; rfl)
                      simp only [zS0, zS1, zTn, Nat.reduceAdd, Nat.reduceMul, Int.reduceToNat, zG0, zG1, zG2, zCa, zCi, zCb, zCs, zCf, zCn, zCt, zCm, zCp, n1, n2, hq]
                  first
                    | (refine HL_skip rfl ?_; simp only [zS0, zS1, zTn, Nat.reduceAdd, Nat.reduceMul, Int.reduceToNat, zG0, zG1, zG2, zCa, zCi, zCb, zCs, zCf, zCn, zCt, zCm, zCp, n1, n2, hq])
                    |
                      refine' HL_q rfl rfl (QV_move (Ev.tmp rfl)) ?_
                      simp only [zS0, zS1, zTn, Nat.reduceAdd, Nat.reduceMul, Int.reduceToNat, zG0, zG1, zG2, zCa, zCi, zCb, zCs, zCf, zCn, zCt, zCm, zCp, n1, n2, hq]
                  first
                    | (refine HL_skip rfl ?_; simp only [zS0, zS1, zTn, Nat.reduceAdd, Nat.reduceMul, Int.reduceToNat, zG0, zG1, zG2, zCa, zCi, zCb, zCs, zCf, zCn, zCt, zCm, zCp, n1, n2, hq])
                    |
                      refine' HL_q rfl rfl (QV_move (Ev.tmp rfl)) ?_
                      simp only [zS0, zS1, zTn, Nat.reduceAdd, Nat.reduceMul, Int.reduceToNat, zG0, zG1, zG2, zCa, zCi, zCb, zCs, zCf, zCn, zCt, zCm, zCp, n1, n2, hq]
                  first
                    | (refine HL_skip rfl ?_; simp only [zS0, zS1, zTn, Nat.reduceAdd, Nat.reduceMul, Int.reduceToNat, zG0, zG1, zG2, zCa, zCi, zCb, zCs, zCf, zCn, zCt, zCm, zCp, n1, n2, hq])
                    |
                      refine' HL_q rfl rfl (QV_move (Ev.tmp rfl)) ?_
                      simp only [zS0, zS1, zTn, Nat.reduceAdd, Nat.reduceMul, Int.reduceToNat, zG0, zG1, zG2, zCa, zCi, zCb, zCs, zCf, zCn, zCt, zCm, zCp, n1, n2, hq]
                  first
                    | (refine HL_skip rfl ?_; simp only [zS0, zS1, zTn, Nat.reduceAdd, Nat.reduceMul, Int.reduceToNat, zG0, zG1, zG2, zCa, zCi, zCb, zCs, zCf, zCn, zCt, zCm, zCp, n1, n2, hq])
                    |
                      refine' HL_call rfl en46 (call_fn (EvL.cons (Ev.tmp rfl) (EvL.cons (Ev.tmp rfl) EvL.nil)).evs) ((has_calls (l := o2) (n := n) (hl2.sub (by (repeat (first | with_reducible exact List.Sublist.refl _ | with_reducible exact List.nil_sublist _ | with_reducible apply List.Sublist.cons_cons | with_reducible apply List.Sublist.cons)))) (canon_long ⟨k2, h2⟩))) ?_
                      rintro _ _ ⟨rfl, rfl⟩
                      simp only [zS0, zS1, zTn, Nat.reduceAdd, Nat.reduceMul, Int.reduceToNat, zG0, zG1, zG2, zCa, zCi, zCb, zCs, zCf, zCn, zCt, zCm, zCp, n1, n2, hq]
                  first
                    | (refine HL_skip rfl ?_; simp only [zS0, zS1, zTn, Nat.reduceAdd, Nat.reduceMul, Int.reduceToNat, zG0, zG1, zG2, zCa, zCi, zCb, zCs, zCf, zCn, zCt, zCm, zCp, n1, n2, hq])
                    |
                      refine' HL_q rfl rfl (QV_move (Ev.tmp rfl)) ?_
                      simp only [zS0, zS1, zTn, Nat.reduceAdd, Nat.reduceMul, Int.reduceToNat, zG0, zG1, zG2, zCa, zCi, zCb, zCs, zCf, zCn, zCt, zCm, zCp, n1, n2, hq]
                  first
                    | (refine HL_skip rfl ?_; simp only [zS0, zS1, zTn, Nat.reduceAdd, Nat.reduceMul, Int.reduceToNat, zG0, zG1, zG2, zCa, zCi, zCb, zCs, zCf, zCn, zCt, zCm, zCp, n1, n2, hq])
                    |
                      refine' HL_q rfl rfl (QV_un (Ev.tmp rfl) ?hr) ?_
                      case hr => intro w; first | (go_simp; done) | (go_simp; rfl)
                      simp only [zS0, zS1, zTn, Nat.reduceAdd, Nat.reduceMul, Int.reduceToNat, zG0, zG1, zG2, zCa, zCi, zCb, zCs, zCf, zCn, zCt, zCm, zCp, n1, n2, hq]
                  first
                    | (refine HL_skip rfl ?_; simp only [zS0, zS1, zTn, Nat.reduceAdd, Nat.reduceMul, Int.reduceToNat, zG0, zG1, zG2, zCa, zCi, zCb, zCs, zCf, zCn, zCt, zCm, zCp, n1, n2, hq])
                    |
                      refine' HL_q rfl rfl (QV_move (Ev.tmp rfl)) ?_
                      simp only [zS0, zS1, zTn, Nat.reduceAdd, Nat.reduceMul, Int.reduceToNat, zG0, zG1, zG2, zCa, zCi, zCb, zCs, zCf, zCn, zCt, zCm, zCp, n1, n2, hq]
                  first
                    | (refine HL_skip rfl ?_; simp only [zS0, zS1, zTn, Nat.reduceAdd, Nat.reduceMul, Int.reduceToNat, zG0, zG1, zG2, zCa, zCi, zCb, zCs, zCf, zCn, zCt, zCm, zCp, n1, n2, hq])
                    |
                      refine' HL_q rfl rfl (QV_move (Ev.tmp rfl)) ?_
                      simp only [zS0, zS1, zTn, Nat.reduceAdd, Nat.reduceMul, Int.reduceToNat, zG0, zG1, zG2, zCa, zCi, zCb, zCs, zCf, zCn, zCt, zCm, zCp, n1, n2, hq]
                  first
                    | (refine HL_skip rfl ?_; simp only [zS0, zS1, zTn, Nat.reduceAdd, Nat.reduceMul, Int.reduceToNat, zG0, zG1, zG2, zCa, zCi, zCb, zCs, zCf, zCn, zCt, zCm, zCp, n1, n2, hq])
                    |
                      refine' HL_q rfl rfl (QV_move (Ev.tmp rfl)) ?_
                      simp only [zS0, zS1, zTn, Nat.reduceAdd, Nat.reduceMul, Int.reduceToNat, zG0, zG1, zG2, zCa, zCi, zCb, zCs, zCf, zCn, zCt, zCm, zCp, n1, n2, hq]
                  first
                    | (refine HL_skip rfl ?_; simp only [zS0, zS1, zTn, Nat.reduceAdd, Nat.reduceMul, Int.reduceToNat, zG0, zG1, zG2, zCa, zCi, zCb, zCs, zCf, zCn, zCt, zCm, zCp, n1, n2, hq])
                    |
                      refine' HL_call rfl en46 (call_fn (EvL.cons (Ev.tmp rfl) (EvL.cons (Ev.tmp rfl) EvL.nil)).evs) ((has_calls (l := l) (n := n) (hs' _) hl)) ?_
                      rintro _ _ ⟨rfl, rfl⟩
                      simp only [zS0, zS1, zTn, Nat.reduceAdd, Nat.reduceMul, Int.reduceToNat, zG0, zG1, zG2, zCa, zCi, zCb, zCs, zCf, zCn, zCt, zCm, zCp, n1, n2, hq]
                  first
                    | (refine HL_skip rfl ?_; simp only [zS0, zS1, zTn, Nat.reduceAdd, Nat.reduceMul, Int.reduceToNat, zG0, zG1, zG2, zCa, zCi, zCb, zCs, zCf, zCn, zCt, zCm, zCp, n1, n2, hq])
                    |
                      refine' HL_q rfl rfl (QV_pick (Ev.tmp rfl) (Ev.tmp rfl) Ev.const) ?_
                      simp only [if_true, if_false, Bool.false_eq_true, reduceIte, zS0, zS1, zTn, Nat.reduceAdd, Nat.reduceMul, Int.reduceToNat, zG0, zG1, zG2, zCa, zCi, zCb, zCs, zCf, zCn, zCt, zCm, zCp, n1, n2, hq]
                  first
                    | (refine HL_skip rfl ?_; simp only [zS0, zS1, zTn, Nat.reduceAdd, Nat.reduceMul, Int.reduceToNat, zG0, zG1, zG2, zCa, zCi, zCb, zCs, zCf, zCn, zCt, zCm, zCp, n1, n2, hq])
                    |
                      refine' HL_q rfl rfl (QV_bin (Ev.tmp rfl) (Ev.tmp rfl) ?hr) ?_
                      case hr => intro w; first | (go_simp; done) | (go_simp; rfl)
                      simp only [zS0, zS1, zTn, Nat.reduceAdd, Nat.reduceMul, Int.reduceToNat, zG0, zG1, zG2, zCa, zCi, zCb, zCs, zCf, zCn, zCt, zCm, zCp, n1, n2, hq]
                  first
                    | (refine HL_skip rfl ?_; simp only [zS0, zS1, zTn, Nat.reduceAdd, Nat.reduceMul, Int.reduceToNat, zG0, zG1, zG2, zCa, zCi, zCb, zCs, zCf, zCn, zCt, zCm, zCp, n1, n2, hq])
                    |
                      refine' HL_q rfl rfl (QV_pick (Ev.tmp rfl) Ev.const (Ev.tmp rfl)) ?_
                      simp only [if_true, if_false, Bool.false_eq_true, reduceIte, zS0, zS1, zTn, Nat.reduceAdd, Nat.reduceMul, Int.reduceToNat, zG0, zG1, zG2, zCa, zCi, zCb, zCs, zCf, zCn, zCt, zCm, zCp, n1, n2, hq]
                  refine' HL_q rfl rfl (QV_pick (Ev.tmp rfl) (Ev.tmp rfl) Ev.const) ?_
                  simp only [if_true, if_false, Bool.false_eq_true, reduceIte, zS0, zS1, zTn, Nat.reduceAdd, Nat.reduceMul, Int.reduceToNat, zG0, zG1, zG2, zCa, zCi, zCb, zCs, zCf, zCn, zCt, zCm, zCp, n1, n2, hq]
                  refine HL_nil ?_
                  refine hN12 _ _ ?_
                  try clear hN12 N12
                  refine HC_false rfl ?_
                  refine HC_skip ?_
                  try simp only [thenK]
                  refine' meetM hM11 Gets.nil ?ag7 ?le ⟨rfl, rfl⟩
                  case ag7 => (simp only [setL, List.set_cons_zero, List.set_cons_succ]; exact (Ag.keep (Ag.keep (Ag.keep (Ag.keep (Ag.keep (Ag.keep (Ag.any (Ag.keep (Ag.keep (Ag.keep (Ag.keep (Ag.keep (Ag.keep (Ag.keep (Ag.keep (Ag.keep (Ag.keep (Ag.keep (Ag.keep (Ag.keep (Ag.keep (Ag.keep (Ag.keep (Ag.keep (Ag.keep (Ag.keep (Ag.keep (Ag.keep (Ag.keep (Ag.keep (Ag.keep (Ag.keep (Ag.keep (Ag.keep (Ag.keep (Ag.keep (Ag.keep (Ag.keep (Ag.keep (Ag.keep (Ag.keep (Ag.keep (Ag.keep (Ag.keep (Ag.keep (Ag.keep (Ag.keep (Ag.keep (Ag.keep (Ag.keep (Ag.keep (Ag.keep (Ag.keep (Ag.keep (Ag.keep (Ag.keep (Ag.keep (Ag.keep (Ag.keep (Ag.keep (Ag.keep (Ag.keep (Ag.keep (Ag.keep (Ag.keep (Ag.keep (Ag.keep (Ag.any (Ag.any (Ag.any (Ag.any (Ag.any (Ag.any (Ag.any (Ag.any (Ag.any (Ag.any (Ag.any (Ag.any (Ag.any (Ag.any (Ag.any (Ag.any (Ag.any (Ag.any (Ag.any (Ag.any Ag.nil))))))))))))))))))))))))))))))))))))))))))))))))))))))))))))))))))))))))))))))))))))))))
                  case le => (first | with_reducible exact Le.refl | (refine Le.of ?_; (repeat (first | with_reducible exact Sp.refl | with_reducible exact Sp.nil | (apply Sp.pick; focus ((repeat (first | with_reducible exact Rm.head | with_reducible apply Rm.tail)); done)) | with_reducible refine Sp.drop ?_))))
            case rest =>
              rintro _ _ u ⟨rfl, rfl⟩
              simp only [setL, fill, List.set_cons_zero, List.set_cons_succ, Nat.reduceAdd]
              rcases hor1 with ⟨h1, rfl, rfl⟩ | ⟨h1, rfl, rfl⟩ <;> rcases hor2 with ⟨h2, rfl, rfl⟩ | ⟨h2, rfl, rfl⟩
              all_goals
                refine HC_seq fun N14 hN14 => ?_
                refine HC_region ?_
                refine' HL_q rfl rfl (QV_move (Ev.tmp rfl)) ?_
                simp only [zS0, zS1, zTn, Nat.reduceAdd, Nat.reduceMul, Int.reduceToNat, zG0, zG1, zG2, zCa, zCi, zCb, zCs, zCf, zCn, zCt, zCm, zCp, n1, n2, hq]
                -- operation 1
                refine' HL_call rfl en45 (call_fn (EvL.cons (Ev.tmp rfl) EvL.nil).evs) ((check_calls (hs' _) hw hl)) ?_
                rintro _ _ ⟨b, rfl, hb, rfl⟩
                obtain rfl : b = true := hb.2 ok1
                simp only [zS0, zS1, zTn, Nat.reduceAdd, Nat.reduceMul, Int.reduceToNat, zG0, zG1, zG2, zCa, zCi, zCb, zCs, zCf, zCn, zCt, zCm, zCp, n1, n2, hq]
                refine' HL_q rfl rfl (QV_un (Ev.tmp rfl) ?hr) ?_
                case hr => intro w; first | (go_simp; done) | (go_simp; rfl)
                simp only [zS0, zS1, zTn, Nat.reduceAdd, Nat.reduceMul, Int.reduceToNat, zG0, zG1, zG2, zCa, zCi, zCb, zCs, zCf, zCn, zCt, zCm, zCp, n1, n2, hq]
                refine' HL_q rfl rfl (QV_move (Ev.tmp rfl)) ?_
                simp only [zS0, zS1, zTn, Nat.reduceAdd, Nat.reduceMul, Int.reduceToNat, zG0, zG1, zG2, zCa, zCi, zCb, zCs, zCf, zCn, zCt, zCm, zCp, n1, n2, hq]
                first
                  | (refine HL_skip rfl ?_; simp only [zS0, zS1, zTn, Nat.reduceAdd, Nat.reduceMul, Int.reduceToNat, zG0, zG1, zG2, zCa, zCi, zCb, zCs, zCf, zCn, zCt, zCm, zCp, n1, n2, hq])
                  |
                    refine' HL_q rfl rfl (QV_field (Ev.tmp rfl) (fld67_0 _ _)) ?_
                    simp only [zS0, zS1, zTn, Nat.reduceAdd, Nat.reduceMul, Int.reduceToNat, zG0, zG1, zG2, zCa, zCi, zCb, zCs, zCf, zCn, zCt, zCm, zCp, n1, n2, hq]
                first
                  | (refine HL_skip rfl ?_; simp only [zS0, zS1, zTn, Nat.reduceAdd, Nat.reduceMul, Int.reduceToNat, zG0, zG1, zG2, zCa, zCi, zCb, zCs, zCf, zCn, zCt, zCm, zCp, n1, n2, hq])
                  |
                    first
                      | (refine' HL_q rfl rfl (QV_load1 (Ev.tmp rfl) Try.isAgg30 ?hm ?hv) ?_; (case hm => (repeat (first | exact List.Mem.head _ | assumption | apply List.Mem.tail))); (case hv => (first | rfl | assumption)))
                      | (refine' HL_q rfl rfl (QV_loadR (Ev.tmp rfl) ?hp Try.isAgg30 ?hs ?hv) ?_; (case hs => (first | assumption | (refine' Sl.sub (by assumption) ?_; (repeat (first | with_reducible exact List.Sublist.refl _ | with_reducible exact List.nil_sublist _ | with_reducible apply List.Sublist.cons_cons | with_reducible apply List.Sublist.cons))))); (case hv => (first  | rfl | assumption)); (case hp => (first | rfl | omega)))
                    simp only [zS0, zS1, zTn, Nat.reduceAdd, Nat.reduceMul, Int.reduceToNat, zG0, zG1, zG2, zCa, zCi, zCb, zCs, zCf, zCn, zCt, zCm, zCp, n1, n2, hq]
                first
                  | (refine HL_skip rfl ?_; simp only [zS0, zS1, zTn, Nat.reduceAdd, Nat.reduceMul, Int.reduceToNat, zG0, zG1, zG2, zCa, zCi, zCb, zCs, zCf, zCn, zCt, zCm, zCp, n1, n2, hq])
                  |
                    refine' HL_q rfl rfl (QV_field (Ev.tmp rfl) (fld67_1 _ _)) ?_
                    simp only [zS0, zS1, zTn, Nat.reduceAdd, Nat.reduceMul, Int.reduceToNat, zG0, zG1, zG2, zCa, zCi, zCb, zCs, zCf, zCn, zCt, zCm, zCp, n1, n2, hq]
                first
                  | (refine HL_skip rfl ?_; simp only [zS0, zS1, zTn, Nat.reduceAdd, Nat.reduceMul, Int.reduceToNat, zG0, zG1, zG2, zCa, zCi, zCb, zCs, zCf, zCn, zCt, zCm, zCp, n1, n2, hq])
                  |
                    first
                      | (refine' HL_q rfl rfl (QV_load1 (Ev.tmp rfl) Try.isAgg30 ?hm ?hv) ?_; (case hm => (repeat (first | exact List.Mem.head _ | assumption | apply List.Mem.tail))); (case hv => (first | rfl | assumption)))
                      | (refine' HL_q rfl rfl (QV_loadR (Ev.tmp rfl) ?hp Try.isAgg30 ?hs ?hv) ?_; (case hs => (first | assumption | (refine' Sl.sub (by assumption) ?_; (repeat (first | with_reducible exact List.Sublist.refl _ | with_reducible exact List.nil_sublist _ | with_reducible apply List.Sublist.cons_cons | with_reducible apply List.Sublist.cons))))); (case hv => (first  | rfl | assumption)); (case hp => (first | rfl | omega)))
                    simp only [zS0, zS1, zTn, Nat.reduceAdd, Nat.reduceMul, Int.reduceToNat, zG0, zG1, zG2, zCa, zCi, zCb, zCs, zCf, zCn, zCt, zCm, zCp, n1, n2, hq]
                first
                  | (refine HL_skip rfl ?_; simp only [zS0, zS1, zTn, Nat.reduceAdd, Nat.reduceMul, Int.reduceToNat, zG0, zG1, zG2, zCa, zCi, zCb, zCs, zCf, zCn, zCt, zCm, zCp, n1, n2, hq])
                  |
                    first
                      | (refine' HL_q rfl rfl (QV_gtr_y (Ev.tmp rfl) (Ev.tmp rfl) ?hb) ?_; case hb => omega)
                      | (refine' HL_q rfl rfl (QV_gtr_n (Ev.tmp rfl) (Ev.tmp rfl) ?hb) ?_; case hb => omega)
                      | (refine' HL_q rfl rfl (QV_gtr (Ev.tmp rfl) (Ev.tmp rfl)) ?_)
                    simp only [zS0, zS1, zTn, Nat.reduceAdd, Nat.reduceMul, Int.reduceToNat, zG0, zG1, zG2, zCa, zCi, zCb, zCs, zCf, zCn, zCt, zCm, zCp, n1, n2, hq]
                refine' HL_q rfl rfl (QV_pick (Ev.tmp rfl) Ev.const (Ev.tmp rfl)) ?_
                simp only [if_true, if_false, Bool.false_eq_true, reduceIte, zS0, zS1, zTn, Nat.reduceAdd, Nat.reduceMul, Int.reduceToNat, zG0, zG1, zG2, zCa, zCi, zCb, zCs, zCf, zCn, zCt, zCm, zCp, n1, n2, hq]
                refine' HL_q rfl rfl (QV_move (Ev.tmp rfl)) ?_
                simp only [zS0, zS1, zTn, Nat.reduceAdd, Nat.reduceMul, Int.reduceToNat, zG0, zG1, zG2, zCa, zCi, zCb, zCs, zCf, zCn, zCt, zCm, zCp, n1, n2, hq]
                first
                  | (refine HL_skip rfl ?_; simp only [zS0, zS1, zTn, Nat.reduceAdd, Nat.reduceMul, Int.reduceToNat, zG0, zG1, zG2, zCa, zCi, zCb, zCs, zCf, zCn, zCt, zCm, zCp, n1, n2, hq])
                  |
                    refine' HL_q rfl rfl (QV_field (Ev.tmp rfl) (fld67_1 _ _)) ?_
                    simp only [zS0, zS1, zTn, Nat.reduceAdd, Nat.reduceMul, Int.reduceToNat, zG0, zG1, zG2, zCa, zCi, zCb, zCs, zCf, zCn, zCt, zCm, zCp, n1, n2, hq]
                first
                  | (refine HL_skip rfl ?_; simp only [zS0, zS1, zTn, Nat.reduceAdd, Nat.reduceMul, Int.reduceToNat, zG0, zG1, zG2, zCa, zCi, zCb, zCs, zCf, zCn, zCt, zCm, zCp, n1, n2, hq])
                  |
                    first
                      | (refine' HL_q rfl rfl (QV_load1 (Ev.tmp rfl) Try.isAgg30 ?hm ?hv) ?_; (case hm => (repeat (first | exact List.Mem.head _ | assumption | apply List.Mem.tail))); (case hv => (first | rfl | assumption)))
                      | (refine' HL_q rfl rfl (QV_loadR (Ev.tmp rfl) ?hp Try.isAgg30 ?hs ?hv) ?_; (case hs => (first | assumption | (refine' Sl.sub (by assumption) ?_; (repeat (first | with_reducible exact List.Sublist.refl _ | with_reducible exact List.nil_sublist _ | with_reducible apply List.Sublist.cons_cons | with_reducible apply List.Sublist.cons))))); (case hv => (first  | rfl | assumption)); (case hp => (first | rfl | omega)))
                    simp only [zS0, zS1, zTn, Nat.reduceAdd, Nat.reduceMul, Int.reduceToNat, zG0, zG1, zG2, zCa, zCi, zCb, zCs, zCf, zCn, zCt, zCm, zCp, n1, n2, hq]
                first
                  | (refine HL_skip rfl ?_; simp only [zS0, zS1, zTn, Nat.reduceAdd, Nat.reduceMul, Int.reduceToNat, zG0, zG1, zG2, zCa, zCi, zCb, zCs, zCf, zCn, zCt, zCm, zCp, n1, n2, hq])
                  |
                    first
                      | (refine' HL_q rfl rfl (QV_gtr_y (Ev.tmp rfl) Ev.const ?hb) ?_; case hb => omega)
                      | (refine' HL_q rfl rfl (QV_gtr_n (Ev.tmp rfl) Ev.const ?hb) ?_; case hb => omega)
                      | (refine' HL_q rfl rfl (QV_gtr (Ev.tmp rfl) Ev.const) ?_)
                    simp only [zS0, zS1, zTn, Nat.reduceAdd, Nat.reduceMul, Int.reduceToNat, zG0, zG1, zG2, zCa, zCi, zCb, zCs, zCf, zCn, zCt, zCm, zCp, n1, n2, hq]
                refine' HL_q rfl rfl (QV_pick (Ev.tmp rfl) Ev.const (Ev.tmp rfl)) ?_
                simp only [if_true, if_false, Bool.false_eq_true, reduceIte, zS0, zS1, zTn, Nat.reduceAdd, Nat.reduceMul, Int.reduceToNat, zG0, zG1, zG2, zCa, zCi, zCb, zCs, zCf, zCn, zCt, zCm, zCp, n1, n2, hq]
                refine' HL_q rfl rfl (QV_assign (Ev.tmp rfl)) ?_
                simp only [zS0, zS1, zTn, Nat.reduceAdd, Nat.reduceMul, Int.reduceToNat, zG0, zG1, zG2, zCa, zCi, zCb, zCs, zCf, zCn, zCt, zCm, zCp, n1, n2, hq]
                refine HL_nil ?_
                refine hN14 _ _ ?_
                try clear hN14 N14
                refine HC_seq fun N15 hN15 => ?_
                refine HC_region ?_
                refine' HL_q rfl rfl (QV_move (Ev.tmp rfl)) ?_
                simp only [zS0, zS1, zTn, Nat.reduceAdd, Nat.reduceMul, Int.reduceToNat, zG0, zG1, zG2, zCa, zCi, zCb, zCs, zCf, zCn, zCt, zCm, zCp, n1, n2, hq]
                first
                  | (refine' HL_q rfl rfl (QV_eql_y (Ev.tmp rfl) Ev.const ?hb) ?_; case hb => omega)
                  | (refine' HL_q rfl rfl (QV_eql_n (Ev.tmp rfl) Ev.const ?hb) ?_; case hb => omega)
                  | (refine' HL_q rfl rfl (QV_eql (Ev.tmp rfl) Ev.const) ?_)
                simp only [zS0, zS1, zTn, Nat.reduceAdd, Nat.reduceMul, Int.reduceToNat, zG0, zG1, zG2, zCa, zCi, zCb, zCs, zCf, zCn, zCt, zCm, zCp, n1, n2, hq]
                refine' HL_q rfl rfl (QV_move (Ev.tmp rfl)) ?_
                simp only [zS0, zS1, zTn, Nat.reduceAdd, Nat.reduceMul, Int.reduceToNat, zG0, zG1, zG2, zCa, zCi, zCb, zCs, zCf, zCn, zCt, zCm, zCp, n1, n2, hq]
                refine' HL_q rfl rfl (QV_bin (Ev.tmp rfl) (Ev.tmp rfl) ?hr) ?_
                case hr => intro w; first | (go_simp; done) | (go_simp; rfl)
                simp only [zS0, zS1, zTn, Nat.reduceAdd, Nat.reduceMul, Int.reduceToNat, zG0, zG1, zG2, zCa, zCi, zCb, zCs, zCf, zCn, zCt, zCm, zCp, n1, n2, hq]
                refine' HL_q rfl rfl (QV_move (Ev.tmp rfl)) ?_
                simp only [zS0, zS1, zTn, Nat.reduceAdd, Nat.reduceMul, Int.reduceToNat, zG0, zG1, zG2, zCa, zCi, zCb, zCs, zCf, zCn, zCt, zCm, zCp, n1, n2, hq]
                first
                  | (refine HL_skip rfl ?_; simp only [zS0, zS1, zTn, Nat.reduceAdd, Nat.reduceMul, Int.reduceToNat, zG0, zG1, zG2, zCa, zCi, zCb, zCs, zCf, zCn, zCt, zCm, zCp, n1, n2, hq])
                  |
                    refine' HL_q rfl rfl (QV_move (Ev.tmp rfl)) ?_
                    simp only [zS0, zS1, zTn, Nat.reduceAdd, Nat.reduceMul, Int.reduceToNat, zG0, zG1, zG2, zCa, zCi, zCb, zCs, zCf, zCn, zCt, zCm, zCp, n1, n2, hq]
                first
                  | (refine HL_skip rfl ?_; simp only [zS0, zS1, zTn, Nat.reduceAdd, Nat.reduceMul, Int.reduceToNat, zG0, zG1, zG2, zCa, zCi, zCb, zCs, zCf, zCn, zCt, zCm, zCp, n1, n2, hq])
                  |
                    first
                      | (refine' HL_q rfl rfl (QV_eql_y (Ev.tmp rfl) Ev.const ?hb) ?_; case hb => omega)
                      | (refine' HL_q rfl rfl (QV_eql_n (Ev.tmp rfl) Ev.const ?hb) ?_; case hb => omega)
                      | (refine' HL_q rfl rfl (QV_eql (Ev.tmp rfl) Ev.const) ?_)
                    simp only [zS0, zS1, zTn, Nat.reduceAdd, Nat.reduceMul, Int.reduceToNat, zG0, zG1, zG2, zCa, zCi, zCb, zCs, zCf, zCn, zCt, zCm, zCp, n1, n2, hq]
                first
                  | (refine HL_skip rfl ?_; simp only [zS0, zS1, zTn, Nat.reduceAdd, Nat.reduceMul, Int.reduceToNat, zG0, zG1, zG2, zCa, zCi, zCb, zCs, zCf, zCn, zCt, zCm, zCp, n1, n2, hq])
                  |
                    refine' HL_q rfl rfl (QV_move (Ev.tmp rfl)) ?_
                    simp only [zS0, zS1, zTn, Nat.reduceAdd, Nat.reduceMul, Int.reduceToNat, zG0, zG1, zG2, zCa, zCi, zCb, zCs, zCf, zCn, zCt, zCm, zCp, n1, n2, hq]
                first
                  | (refine HL_skip rfl ?_; simp only [zS0, zS1, zTn, Nat.reduceAdd, Nat.reduceMul, Int.reduceToNat, zG0, zG1, zG2, zCa, zCi, zCb, zCs, zCf, zCn, zCt, zCm, zCp, n1, n2, hq])
                  |
                    refine' HL_q rfl rfl (QV_bin (Ev.tmp rfl) (Ev.tmp rfl) ?hr) ?_
                    case hr => intro w; first | (go_simp; done) | (go_simp; rfl)
                    simp only [zS0, zS1, zTn, Nat.reduceAdd, Nat.reduceMul, Int.reduceToNat, zG0, zG1, zG2, zCa, zCi, zCb, zCs, zCf, zCn, zCt, zCm, zCp, n1, n2, hq]
                refine' HL_q rfl rfl (QV_pick (Ev.tmp rfl) (Ev.tmp rfl) Ev.const) ?_
                simp only [if_true, if_false, Bool.false_eq_true, reduceIte, zS0, zS1, zTn, Nat.reduceAdd, Nat.reduceMul, Int.reduceToNat, zG0, zG1, zG2, zCa, zCi, zCb, zCs, zCf, zCn, zCt, zCm, zCp, n1, n2, hq]
                refine' HL_q rfl rfl (QV_move (Ev.tmp rfl)) ?_
                simp only [zS0, zS1, zTn, Nat.reduceAdd, Nat.reduceMul, Int.reduceToNat, zG0, zG1, zG2, zCa, zCi, zCb, zCs, zCf, zCn, zCt, zCm, zCp, n1, n2, hq]
                first
                  | (refine HL_skip rfl ?_; simp only [zS0, zS1, zTn, Nat.reduceAdd, Nat.reduceMul, Int.reduceToNat, zG0, zG1, zG2, zCa, zCi, zCb, zCs, zCf, zCn, zCt, zCm, zCp, n1, n2, hq])
                  |
                    refine' HL_q rfl rfl (QV_move (Ev.tmp rfl)) ?_
                    simp only [zS0, zS1, zTn, Nat.reduceAdd, Nat.reduceMul, Int.reduceToNat, zG0, zG1, zG2, zCa, zCi, zCb, zCs, zCf, zCn, zCt, zCm, zCp, n1, n2, hq]
                first
                  | (refine HL_skip rfl ?_; simp only [zS0, zS1, zTn, Nat.reduceAdd, Nat.reduceMul, Int.reduceToNat, zG0, zG1, zG2, zCa, zCi, zCb, zCs, zCf, zCn, zCt, zCm, zCp, n1, n2, hq])
                  |
                    first
                      | (refine' HL_q rfl rfl (QV_eql_y (Ev.tmp rfl) Ev.const ?hb) ?_; case hb => omega)
                      | (refine' HL_q rfl rfl (QV_eql_n (Ev.tmp rfl) Ev.const ?hb) ?_; case hb => omega)
                      | (refine' HL_q rfl rfl (QV_eql (Ev.tmp rfl) Ev.const) ?_)
                    simp only [zS0, zS1, zTn, Nat.reduceAdd, Nat.reduceMul, Int.reduceToNat, zG0, zG1, zG2, zCa, zCi, zCb, zCs, zCf, zCn, zCt, zCm, zCp, n1, n2, hq]
                first
                  | (refine HL_skip rfl ?_; simp only [zS0, zS1, zTn, Nat.reduceAdd, Nat.reduceMul, Int.reduceToNat, zG0, zG1, zG2, zCa, zCi, zCb, zCs, zCf, zCn, zCt, zCm, zCp, n1, n2, hq])
                  |
                    refine' HL_q rfl rfl (QV_move (Ev.tmp rfl)) ?_
                    simp only [zS0, zS1, zTn, Nat.reduceAdd, Nat.reduceMul, Int.reduceToNat, zG0, zG1, zG2, zCa, zCi, zCb, zCs, zCf, zCn, zCt, zCm, zCp, n1, n2, hq]
                first
                  | (refine HL_skip rfl ?_; simp only [zS0, zS1, zTn, Nat.reduceAdd, Nat.reduceMul, Int.reduceToNat, zG0, zG1, zG2, zCa, zCi, zCb, zCs, zCf, zCn, zCt, zCm, zCp, n1, n2, hq])
                  |
                    refine' HL_q rfl rfl (QV_move (Ev.tmp rfl)) ?_
                    simp only [zS0, zS1, zTn, Nat.reduceAdd, Nat.reduceMul, Int.reduceToNat, zG0, zG1, zG2, zCa, zCi, zCb, zCs, zCf, zCn, zCt, zCm, zCp, n1, n2, hq]
                first
                  | (refine HL_skip rfl ?_; simp only [zS0, zS1, zTn, Nat.reduceAdd, Nat.reduceMul, Int.reduceToNat, zG0, zG1, zG2, zCa, zCi, zCb, zCs, zCf, zCn, zCt, zCm, zCp, n1, n2, hq])
                  |
                    first
                      | (refine' HL_q rfl rfl (QV_eql_y (Ev.tmp rfl) Ev.const ?hb) ?_; case hb => omega)
                      | (refine' HL_q rfl rfl (QV_eql_n (Ev.tmp rfl) Ev.const ?hb) ?_; case hb => omega)
                      | (refine' HL_q rfl rfl (QV_eql (Ev.tmp rfl) Ev.const) ?_)
                    simp only [zS0, zS1, zTn, Nat.reduceAdd, Nat.reduceMul, Int.reduceToNat, zG0, zG1, zG2, zCa, zCi, zCb, zCs, zCf, zCn, zCt, zCm, zCp, n1, n2, hq]
                first
                  | (refine HL_skip rfl ?_; simp only [zS0, zS1, zTn, Nat.reduceAdd, Nat.reduceMul, Int.reduceToNat, zG0, zG1, zG2, zCa, zCi, zCb, zCs, zCf, zCn, zCt, zCm, zCp, n1, n2, hq])
                  |
                    refine' HL_q rfl rfl (QV_pick (Ev.tmp rfl) Ev.const (Ev.tmp rfl)) ?_
                    simp only [if_true, if_false, Bool.false_eq_true, reduceIte, zS0, zS1, zTn, Nat.reduceAdd, Nat.reduceMul, Int.reduceToNat, zG0, zG1, zG2, zCa, zCi, zCb, zCs, zCf, zCn, zCt, zCm, zCp, n1, n2, hq]
                first
                  | (refine HL_skip rfl ?_; simp only [zS0, zS1, zTn, Nat.reduceAdd, Nat.reduceMul, Int.reduceToNat, zG0, zG1, zG2, zCa, zCi, zCb, zCs, zCf, zCn, zCt, zCm, zCp, n1, n2, hq])
                  |
                    refine' HL_q rfl rfl (QV_move (Ev.tmp rfl)) ?_
                    simp only [zS0, zS1, zTn, Nat.reduceAdd, Nat.reduceMul, Int.reduceToNat, zG0, zG1, zG2, zCa, zCi, zCb, zCs, zCf, zCn, zCt, zCm, zCp, n1, n2, hq]
                first
                  | (refine HL_skip rfl ?_; simp only [zS0, zS1, zTn, Nat.reduceAdd, Nat.reduceMul, Int.reduceToNat, zG0, zG1, zG2, zCa, zCi, zCb, zCs, zCf, zCn, zCt, zCm, zCp, n1, n2, hq])
                  |
                    refine' HL_q rfl rfl (QV_move (Ev.tmp rfl)) ?_
                    simp only [zS0, zS1, zTn, Nat.reduceAdd, Nat.reduceMul, Int.reduceToNat, zG0, zG1, zG2, zCa, zCi, zCb, zCs, zCf, zCn, zCt, zCm, zCp, n1, n2, hq]
                first
                  | (refine HL_skip rfl ?_; simp only [zS0, zS1, zTn, Nat.reduceAdd, Nat.reduceMul, Int.reduceToNat, zG0, zG1, zG2, zCa, zCi, zCb, zCs, zCf, zCn, zCt, zCm, zCp, n1, n2, hq])
                  |
                    first
                      | (refine' HL_q rfl rfl (QV_eql_y (Ev.tmp rfl) Ev.const ?hb) ?_; case hb => omega)
                      | (refine' HL_q rfl rfl (QV_eql_n (Ev.tmp rfl) Ev.const ?hb) ?_; case hb => omega)
                      | (refine' HL_q rfl rfl (QV_eql (Ev.tmp rfl) Ev.const) ?_)
                    simp only [zS0, zS1, zTn, Nat.reduceAdd, Nat.reduceMul, Int.reduceToNat, zG0, zG1, zG2, zCa, zCi, zCb, zCs, zCf, zCn, zCt, zCm, zCp, n1, n2, hq]
                first
                  | (refine HL_skip rfl ?_; simp only [zS0, zS1, zTn, Nat.reduceAdd, Nat.reduceMul, Int.reduceToNat, zG0, zG1, zG2, zCa, zCi, zCb, zCs, zCf, zCn, zCt, zCm, zCp, n1, n2, hq])
                  |
                    refine' HL_q rfl rfl (QV_pick (Ev.tmp rfl) Ev.const (Ev.tmp rfl)) ?_
                    simp only [if_true, if_false, Bool.false_eq_true, reduceIte, zS0, zS1, zTn, Nat.reduceAdd, Nat.reduceMul, Int.reduceToNat, zG0, zG1, zG2, zCa, zCi, zCb, zCs, zCf, zCn, zCt, zCm, zCp, n1, n2, hq]
                refine' HL_q rfl rfl (QV_pick (Ev.tmp rfl) (Ev.tmp rfl) Ev.const) ?_
                simp only [if_true, if_false, Bool.false_eq_true, reduceIte, zS0, zS1, zTn, Nat.reduceAdd, Nat.reduceMul, Int.reduceToNat, zG0, zG1, zG2, zCa, zCi, zCb, zCs, zCf, zCn, zCt, zCm, zCp, n1, n2, hq]
                refine' HL_q rfl rfl (QV_move (Ev.tmp rfl)) ?_
                simp only [zS0, zS1, zTn, Nat.reduceAdd, Nat.reduceMul, Int.reduceToNat, zG0, zG1, zG2, zCa, zCi, zCb, zCs, zCf, zCn, zCt, zCm, zCp, n1, n2, hq]
                first
                  | (refine HL_skip rfl ?_; simp only [zS0, zS1, zTn, Nat.reduceAdd, Nat.reduceMul, Int.reduceToNat, zG0, zG1, zG2, zCa, zCi, zCb, zCs, zCf, zCn, zCt, zCm, zCp, n1, n2, hq])
                  |
                    refine' HL_q rfl rfl (QV_move (Ev.tmp rfl)) ?_
                    simp only [zS0, zS1, zTn, Nat.reduceAdd, Nat.reduceMul, Int.reduceToNat, zG0, zG1, zG2, zCa, zCi, zCb, zCs, zCf, zCn, zCt, zCm, zCp, n1, n2, hq]
                first
                  | (refine HL_skip rfl ?_; simp only [zS0, zS1, zTn, Nat.reduceAdd, Nat.reduceMul, Int.reduceToNat, zG0, zG1, zG2, zCa, zCi, zCb, zCs, zCf, zCn, zCt, zCm, zCp, n1, n2, hq])
                  |
                    first
                      | (refine' HL_q rfl rfl (QV_eql_y (Ev.tmp rfl) Ev.const ?hb) ?_; case hb => omega)
                      | (refine' HL_q rfl rfl (QV_eql_n (Ev.tmp rfl) Ev.const ?hb) ?_; case hb => omega)
                      | (refine' HL_q rfl rfl (QV_eql (Ev.tmp rfl) Ev.const) ?_)
                    simp only [zS0, zS1, zTn, Nat.reduceAdd, Nat.reduceMul, Int.reduceToNat, zG0, zG1, zG2, zCa, zCi, zCb, zCs, zCf, zCn, zCt, zCm, zCp, n1, n2, hq]
                first
                  | (refine HL_skip rfl ?_; simp only [zS0, zS1, zTn, Nat.reduceAdd, Nat.reduceMul, Int.reduceToNat, zG0, zG1, zG2, zCa, zCi, zCb, zCs, zCf, zCn, zCt, zCm, zCp, n1, n2, hq])
                  |
                    refine' HL_q rfl rfl (QV_move (Ev.tmp rfl)) ?_
                    simp only [zS0, zS1, zTn, Nat.reduceAdd, Nat.reduceMul, Int.reduceToNat, zG0, zG1, zG2, zCa, zCi, zCb, zCs, zCf, zCn, zCt, zCm, zCp, n1, n2, hq]
                first
                  | (refine HL_skip rfl ?_; simp only [zS0, zS1, zTn, Nat.reduceAdd, Nat.reduceMul, Int.reduceToNat, zG0, zG1, zG2, zCa, zCi, zCb, zCs, zCf, zCn, zCt, zCm, zCp, n1, n2, hq])
                  |
                    refine' HL_q rfl rfl (QV_move (Ev.tmp rfl)) ?_
                    simp only [zS0, zS1, zTn, Nat.reduceAdd, Nat.reduceMul, Int.reduceToNat, zG0, zG1, zG2, zCa, zCi, zCb, zCs, zCf, zCn, zCt, zCm, zCp, n1, n2, hq]
                first
                  | (refine HL_skip rfl ?_; simp only [zS0, zS1, zTn, Nat.reduceAdd, Nat.reduceMul, Int.reduceToNat, zG0, zG1, zG2, zCa, zCi, zCb, zCs, zCf, zCn, zCt, zCm, zCp, n1, n2, hq])
                  |
                    first
                      | (refine' HL_q rfl rfl (QV_eql_y (Ev.tmp rfl) Ev.const ?hb) ?_; case hb => omega)
                      | (refine' HL_q rfl rfl (QV_eql_n (Ev.tmp rfl) Ev.const ?hb) ?_; case hb => omega)
                      | (refine' HL_q rfl rfl (QV_eql (Ev.tmp rfl) Ev.const) ?_)
                    simp only [zS0, zS1, zTn, Nat.reduceAdd, Nat.reduceMul, Int.reduceToNat, zG0, zG1, zG2, zCa, zCi, zCb, zCs, zCf, zCn, zCt, zCm, zCp, n1, n2, hq]
                first
                  | (refine HL_skip rfl ?_; simp only [zS0, zS1, zTn, Nat.reduceAdd, Nat.reduceMul, Int.reduceToNat, zG0, zG1, zG2, zCa, zCi, zCb, zCs, zCf, zCn, zCt, zCm, zCp, n1, n2, hq])
                  |
                    refine' HL_q rfl rfl (QV_pick (Ev.tmp rfl) Ev.const (Ev.tmp rfl)) ?_
                    simp only [if_true, if_false, Bool.false_eq_true, reduceIte, zS0, zS1, zTn, Nat.reduceAdd, Nat.reduceMul, Int.reduceToNat, zG0, zG1, zG2, zCa, zCi, zCb, zCs, zCf, zCn, zCt, zCm, zCp, n1, n2, hq]
                first
                  | (refine HL_skip rfl ?_; simp only [zS0, zS1, zTn, Nat.reduceAdd, Nat.reduceMul, Int.reduceToNat, zG0, zG1, zG2, zCa, zCi, zCb, zCs, zCf, zCn, zCt, zCm, zCp, n1, n2, hq])
                  |
                    refine' HL_q rfl rfl (QV_move (Ev.tmp rfl)) ?_
                    simp only [zS0, zS1, zTn, Nat.reduceAdd, Nat.reduceMul, Int.reduceToNat, zG0, zG1, zG2, zCa, zCi, zCb, zCs, zCf, zCn, zCt, zCm, zCp, n1, n2, hq]
                first
                  | (refine HL_skip rfl ?_; simp only [zS0, zS1, zTn, Nat.reduceAdd, Nat.reduceMul, Int.reduceToNat, zG0, zG1, zG2, zCa, zCi, zCb, zCs, zCf, zCn, zCt, zCm, zCp, n1, n2, hq])
                  |
                    refine' HL_q rfl rfl (QV_move (Ev.tmp rfl)) ?_
                    simp only [zS0, zS1, zTn, Nat.reduceAdd, Nat.reduceMul, Int.reduceToNat, zG0, zG1, zG2, zCa, zCi, zCb, zCs, zCf, zCn, zCt, zCm, zCp, n1, n2, hq]
                first
                  | (refine HL_skip rfl ?_; simp only [zS0, zS1, zTn, Nat.reduceAdd, Nat.reduceMul, Int.reduceToNat, zG0, zG1, zG2, zCa, zCi, zCb, zCs, zCf, zCn, zCt, zCm, zCp, n1, n2, hq])
                  |
                    first
                      | (refine' HL_q rfl rfl (QV_eql_y (Ev.tmp rfl) Ev.const ?hb) ?_; case hb => omega)
                      | (refine' HL_q rfl rfl (QV_eql_n (Ev.tmp rfl) Ev.const ?hb) ?_; case hb => omega)
                      | (refine' HL_q rfl rfl (QV_eql (Ev.tmp rfl) Ev.const) ?_)
                    simp only [zS0, zS1, zTn, Nat.reduceAdd, Nat.reduceMul, Int.reduceToNat, zG0, zG1, zG2, zCa, zCi, zCb, zCs, zCf, zCn, zCt, zCm, zCp, n1, n2, hq]
                first
                  | (refine HL_skip rfl ?_; simp only [zS0, zS1, zTn, Nat.reduceAdd, Nat.reduceMul, Int.reduceToNat, zG0, zG1, zG2, zCa, zCi, zCb, zCs, zCf, zCn, zCt, zCm, zCp, n1, n2, hq])
                  |
                    refine' HL_q rfl rfl (QV_pick (Ev.tmp rfl) Ev.const (Ev.tmp rfl)) ?_
                    simp only [if_true, if_false, Bool.false_eq_true, reduceIte, zS0, zS1, zTn, Nat.reduceAdd, Nat.reduceMul, Int.reduceToNat, zG0, zG1, zG2, zCa, zCi, zCb, zCs, zCf, zCn, zCt, zCm, zCp, n1, n2, hq]
                refine' HL_q rfl rfl (QV_pick (Ev.tmp rfl) (Ev.tmp rfl) Ev.const) ?_
                simp only [if_true, if_false, Bool.false_eq_true, reduceIte, zS0, zS1, zTn, Nat.reduceAdd, Nat.reduceMul, Int.reduceToNat, zG0, zG1, zG2, zCa, zCi, zCb, zCs, zCf, zCn, zCt, zCm, zCp, n1, n2, hq]
                refine' HL_q rfl rfl (QV_assign (Ev.tmp rfl)) ?_
                simp only [zS0, zS1, zTn, Nat.reduceAdd, Nat.reduceMul, Int.reduceToNat, zG0, zG1, zG2, zCa, zCi, zCb, zCs, zCf, zCn, zCt, zCm, zCp, n1, n2, hq]
                refine HL_nil ?_
                refine hN15 _ _ ?_
                try clear hN15 N15
                refine HC_ret ?_
                try simp only [thenK, blockK]
                refine kr _ _ ?_
                refine' Lv_tmp rfl rfl ?post ?le
                case post => exact ⟨rfl, rfl⟩
                case le => (first | with_reducible exact Le.refl | (refine Le.of ?_; (repeat (first | with_reducible exact Sp.refl | with_reducible exact Sp.nil | (apply Sp.pick; focus ((repeat (first | with_reducible exact Rm.head | with_reducible apply Rm.tail)); done)) | with_reducible refine Sp.drop ?_))))
end Go.Proofs.Ytcilfoicoambhaa
