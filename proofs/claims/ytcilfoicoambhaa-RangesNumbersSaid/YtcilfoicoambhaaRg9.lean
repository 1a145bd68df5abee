import Derived.Test.YtcilfoicoambhaaRg8
set_option linter.unusedVariables false
set_option linter.unusedSimpArgs false
set_option maxRecDepth 20000
set_option maxHeartbeats 4000000
namespace Go.Proofs.Ytcilfoicoambhaa
open Go Go.Hw Go.RowKit

variable {w0 : World} {R : List Asn}

theorem canon_of {l : List Rg} (h : (∀ r ∈ l, r.1 ≤ r.2 ∧ r.2 ≤ 4611686018427387903)) (h2 : l.Pairwise fun x y => x.2 + 1 < y.1) : Canon l := ⟨h2, h⟩
theorem wide_of {l : List Rg} (h : Canon l) : Wide l := fun r hr => by have := h.ok r hr; omega

theorem alive8 : CH Try.prog w0 37 #[] R fun v R' => v = .bool true ∧ R' = R := by
  have s1 : SetOk [(1, 3), (7, 9)] := ⟨canon_of (by decide) (by decide), by decide⟩
  have s2 : SetOk [(1, 9)] := ⟨canon_of (by decide) (by decide), by decide⟩
  have s3 : SetOk [(1, 5), (8, 9)] := ⟨canon_of (by decide) (by decide), by decide⟩
  have s4 : SetOk [(4, 8)] := ⟨canon_of (by decide) (by decide), by decide⟩
  have s5 : SetOk [(4, 5), (8, 8)] := ⟨canon_of (by decide) (by decide), by decide⟩
  have s6 : ¬ SetOk [(1, 3), (4, 5)] := fun h => by
    have := (List.pairwise_cons.1 h.1.gaps).1 (4, 5) (by simp)
    simp at this
  refine CH_of Try.func37 rfl fun K kn kr kp => ?_
  simp only [Try.ntmps37, List.size_toArray, List.length_cons, List.length_nil, Nat.reduceAdd, Nat.reduceSub, Array.replicate_succ, Array.replicate_zero, List.push_toArray, List.append_toArray, List.nil_append, List.cons_append]
  refine HC_seq fun N1 hN1 => ?_
  refine HC_region ?_
  refine' HL_q rfl rfl (QV_assign Ev.const) ?_
  simp only [zS0, zS1, zTn, Nat.reduceAdd, Nat.reduceMul, Int.reduceToNat, zG0, zG1, zG2, zCa, zCi, zCb, zCs, zCf, zCn, zCt, zCm, zCp]
  refine HL_nil ?_
  refine hN1 _ _ ?_
  try clear hN1 N1
  refine HC_seq fun N2 hN2 => ?_
  refine HC_region ?_
  -- operation 0
  refine' HL_call rfl en48 (call_fn (EvL.cons Ev.const (EvL.cons Ev.const EvL.nil)).evs) (rg_calls) ?_
  rintro _ _ ⟨rfl, rfl⟩
  simp only [zS0, zS1, zTn, Nat.reduceAdd, Nat.reduceMul, Int.reduceToNat, zG0, zG1, zG2, zCa, zCi, zCb, zCs, zCf, zCn, zCt, zCm, zCp]
  -- operation 1
  refine' HL_call rfl en48 (call_fn (EvL.cons Ev.const (EvL.cons Ev.const EvL.nil)).evs) (rg_calls) ?_
  rintro _ _ ⟨rfl, rfl⟩
  simp only [zS0, zS1, zTn, Nat.reduceAdd, Nat.reduceMul, Int.reduceToNat, zG0, zG1, zG2, zCa, zCi, zCb, zCs, zCf, zCn, zCt, zCm, zCp]
  -- operation 2
  refine' HL_s rfl rfl (SO_buildSlice (EvL.cons (Ev.tmp rfl) (EvL.cons (Ev.tmp rfl) EvL.nil)) ?hr) ?_
  case hr => exact bs34b _ _ _ _
  rintro _ _ ⟨g12, rfl, rfl⟩
  simp only [zS0, zS1, zTn, Nat.reduceAdd, Nat.reduceMul, Int.reduceToNat, zG0, zG1, zG2, zCa, zCi, zCb, zCs, zCf, zCn, zCt, zCm, zCp]
  -- operation 3
  refine' HL_call rfl en48 (call_fn (EvL.cons Ev.const (EvL.cons Ev.const EvL.nil)).evs) (rg_calls) ?_
  rintro _ _ ⟨rfl, rfl⟩
  simp only [zS0, zS1, zTn, Nat.reduceAdd, Nat.reduceMul, Int.reduceToNat, zG0, zG1, zG2, zCa, zCi, zCb, zCs, zCf, zCn, zCt, zCm, zCp]
  -- operation 4
  refine' HL_call rfl en35 (call_fn (EvL.cons (Ev.tmp rfl) (EvL.cons (Ev.tmp rfl) EvL.nil)).evs) ((add_calls (l := [(1, 3), (7, 9)]) (x := 4) (y := 6) (sl_rg (by repeat (first | exact List.Mem.head _ | assumption | apply List.Mem.tail)) rfl) (wide_of s1.1) (by decide))) ?_
  rintro _ _ ⟨A1, c1, o1, e1, rfl, rfl, hl1, hs1⟩
  simp only [zS0, zS1, zTn, Nat.reduceAdd, Nat.reduceMul, Int.reduceToNat, zG0, zG1, zG2, zCa, zCi, zCb, zCs, zCf, zCn, zCt, zCm, zCp]
  refine' HL_q rfl rfl (QV_move (Ev.tmp rfl)) ?_
  simp only [zS0, zS1, zTn, Nat.reduceAdd, Nat.reduceMul, Int.reduceToNat, zG0, zG1, zG2, zCa, zCi, zCb, zCs, zCf, zCn, zCt, zCm, zCp]
  refine' HL_q rfl rfl (QV_extract (Ev.tmp rfl) rfl) ?_
  simp only [zS0, zS1, zTn, Nat.reduceAdd, Nat.reduceMul, Int.reduceToNat, zG0, zG1, zG2, zCa, zCi, zCb, zCs, zCf, zCn, zCt, zCm, zCp]
  refine' HL_q rfl rfl (QV_extract (Ev.tmp rfl) rfl) ?_
  simp only [zS0, zS1, zTn, Nat.reduceAdd, Nat.reduceMul, Int.reduceToNat, zG0, zG1, zG2, zCa, zCi, zCb, zCs, zCf, zCn, zCt, zCm, zCp]
  refine' HL_q rfl rfl (QV_assign (Ev.tmp rfl)) ?_
  simp only [zS0, zS1, zTn, Nat.reduceAdd, Nat.reduceMul, Int.reduceToNat, zG0, zG1, zG2, zCa, zCi, zCb, zCs, zCf, zCn, zCt, zCm, zCp]
  refine' HL_q rfl rfl (QV_assign (Ev.tmp rfl)) ?_
  simp only [zS0, zS1, zTn, Nat.reduceAdd, Nat.reduceMul, Int.reduceToNat, zG0, zG1, zG2, zCa, zCi, zCb, zCs, zCf, zCn, zCt, zCm, zCp]
  refine HL_nil ?_
  refine hN2 _ _ ?_
  try clear hN2 N2
  obtain ⟨rfl, rfl⟩ := opSpec_eval hs1 ⟨s1, by decide⟩ s2.1 (by decide) (fun n => by rw [Bool.eq_iff_iff]; simp [memR]; omega)
  refine HC_seq fun N3 hN3 => ?_
  refine HC_region ?_
  -- operation 0
  refine' HL_call rfl en48 (call_fn (EvL.cons Ev.const (EvL.cons Ev.const EvL.nil)).evs) (rg_calls) ?_
  rintro _ _ ⟨rfl, rfl⟩
  simp only [zS0, zS1, zTn, Nat.reduceAdd, Nat.reduceMul, Int.reduceToNat, zG0, zG1, zG2, zCa, zCi, zCb, zCs, zCf, zCn, zCt, zCm, zCp]
  -- operation 1
  refine' HL_s rfl rfl (SO_buildSlice (EvL.cons (Ev.tmp rfl) EvL.nil) ?hr) ?_
  case hr => exact bs34 _ _
  rintro _ _ ⟨g19, rfl, rfl⟩
  simp only [zS0, zS1, zTn, Nat.reduceAdd, Nat.reduceMul, Int.reduceToNat, zG0, zG1, zG2, zCa, zCi, zCb, zCs, zCf, zCn, zCt, zCm, zCp]
  -- operation 2
  refine' HL_call rfl en48 (call_fn (EvL.cons Ev.const (EvL.cons Ev.const EvL.nil)).evs) (rg_calls) ?_
  rintro _ _ ⟨rfl, rfl⟩
  simp only [zS0, zS1, zTn, Nat.reduceAdd, Nat.reduceMul, Int.reduceToNat, zG0, zG1, zG2, zCa, zCi, zCb, zCs, zCf, zCn, zCt, zCm, zCp]
  -- operation 3
  refine' HL_call rfl en36 (call_fn (EvL.cons (Ev.tmp rfl) (EvL.cons (Ev.tmp rfl) EvL.nil)).evs) ((cut_calls (l := [(1, 9)]) (x := 4) (y := 6) (sl_rg (by repeat (first | exact List.Mem.head _ | assumption | apply List.Mem.tail)) rfl) (wide_of s2.1) (by decide))) ?_
  rintro _ _ ⟨A2, c2, o2, e2, rfl, rfl, hl2, hs2⟩
  simp only [zS0, zS1, zTn, Nat.reduceAdd, Nat.reduceMul, Int.reduceToNat, zG0, zG1, zG2, zCa, zCi, zCb, zCs, zCf, zCn, zCt, zCm, zCp]
  refine' HL_q rfl rfl (QV_move (Ev.tmp rfl)) ?_
  simp only [zS0, zS1, zTn, Nat.reduceAdd, Nat.reduceMul, Int.reduceToNat, zG0, zG1, zG2, zCa, zCi, zCb, zCs, zCf, zCn, zCt, zCm, zCp]
  refine' HL_q rfl rfl (QV_extract (Ev.tmp rfl) rfl) ?_
  simp only [zS0, zS1, zTn, Nat.reduceAdd, Nat.reduceMul, Int.reduceToNat, zG0, zG1, zG2, zCa, zCi, zCb, zCs, zCf, zCn, zCt, zCm, zCp]
  refine' HL_q rfl rfl (QV_extract (Ev.tmp rfl) rfl) ?_
  simp only [zS0, zS1, zTn, Nat.reduceAdd, Nat.reduceMul, Int.reduceToNat, zG0, zG1, zG2, zCa, zCi, zCb, zCs, zCf, zCn, zCt, zCm, zCp]
  refine' HL_q rfl rfl (QV_assign (Ev.tmp rfl)) ?_
  simp only [zS0, zS1, zTn, Nat.reduceAdd, Nat.reduceMul, Int.reduceToNat, zG0, zG1, zG2, zCa, zCi, zCb, zCs, zCf, zCn, zCt, zCm, zCp]
  refine' HL_q rfl rfl (QV_assign (Ev.tmp rfl)) ?_
  simp only [zS0, zS1, zTn, Nat.reduceAdd, Nat.reduceMul, Int.reduceToNat, zG0, zG1, zG2, zCa, zCi, zCb, zCs, zCf, zCn, zCt, zCm, zCp]
  refine HL_nil ?_
  refine hN3 _ _ ?_
  try clear hN3 N3
  obtain ⟨rfl, rfl⟩ := opSpec_eval hs2 ⟨s2, by decide⟩ s1.1 (by decide) (fun n => by rw [Bool.eq_iff_iff]; simp [memR]; omega)
  refine HC_seq fun N4 hN4 => ?_
  refine HC_region ?_
  -- operation 0
  refine' HL_call rfl en48 (call_fn (EvL.cons Ev.const (EvL.cons Ev.const EvL.nil)).evs) (rg_calls) ?_
  rintro _ _ ⟨rfl, rfl⟩
  simp only [zS0, zS1, zTn, Nat.reduceAdd, Nat.reduceMul, Int.reduceToNat, zG0, zG1, zG2, zCa, zCi, zCb, zCs, zCf, zCn, zCt, zCm, zCp]
  -- operation 1
  refine' HL_call rfl en48 (call_fn (EvL.cons Ev.const (EvL.cons Ev.const EvL.nil)).evs) (rg_calls) ?_
  rintro _ _ ⟨rfl, rfl⟩
  simp only [zS0, zS1, zTn, Nat.reduceAdd, Nat.reduceMul, Int.reduceToNat, zG0, zG1, zG2, zCa, zCi, zCb, zCs, zCf, zCn, zCt, zCm, zCp]
  -- operation 2
  refine' HL_s rfl rfl (SO_buildSlice (EvL.cons (Ev.tmp rfl) (EvL.cons (Ev.tmp rfl) EvL.nil)) ?hr) ?_
  case hr => exact bs34b _ _ _ _
  rintro _ _ ⟨g27, rfl, rfl⟩
  simp only [zS0, zS1, zTn, Nat.reduceAdd, Nat.reduceMul, Int.reduceToNat, zG0, zG1, zG2, zCa, zCi, zCb, zCs, zCf, zCn, zCt, zCm, zCp]
  -- operation 3
  refine' HL_call rfl en48 (call_fn (EvL.cons Ev.const (EvL.cons Ev.const EvL.nil)).evs) (rg_calls) ?_
  rintro _ _ ⟨rfl, rfl⟩
  simp only [zS0, zS1, zTn, Nat.reduceAdd, Nat.reduceMul, Int.reduceToNat, zG0, zG1, zG2, zCa, zCi, zCb, zCs, zCf, zCn, zCt, zCm, zCp]
  -- operation 4
  refine' HL_s rfl rfl (SO_buildSlice (EvL.cons (Ev.tmp rfl) EvL.nil) ?hr) ?_
  case hr => exact bs34 _ _
  rintro _ _ ⟨g29, rfl, rfl⟩
  simp only [zS0, zS1, zTn, Nat.reduceAdd, Nat.reduceMul, Int.reduceToNat, zG0, zG1, zG2, zCa, zCi, zCb, zCs, zCf, zCn, zCt, zCm, zCp]
  -- operation 5
  refine' HL_call rfl en47 (call_fn (EvL.cons (Ev.tmp rfl) (EvL.cons (Ev.tmp rfl) EvL.nil)).evs) ((meet_calls (l := [(1, 5), (8, 9)]) (m := [(4, 8)]) (sl_rg (by repeat (first | exact List.Mem.head _ | assumption | apply List.Mem.tail)) rfl) (wide_of s3.1) (by decide) (sl_rg (by repeat (first | exact List.Mem.head _ | assumption | apply List.Mem.tail)) rfl) (wide_of s4.1) (by decide))) ?_
  rintro _ _ ⟨A3, c3, o3, e3, rfl, rfl, hl3, hs3⟩
  simp only [zS0, zS1, zTn, Nat.reduceAdd, Nat.reduceMul, Int.reduceToNat, zG0, zG1, zG2, zCa, zCi, zCb, zCs, zCf, zCn, zCt, zCm, zCp]
  refine' HL_q rfl rfl (QV_move (Ev.tmp rfl)) ?_
  simp only [zS0, zS1, zTn, Nat.reduceAdd, Nat.reduceMul, Int.reduceToNat, zG0, zG1, zG2, zCa, zCi, zCb, zCs, zCf, zCn, zCt, zCm, zCp]
  refine' HL_q rfl rfl (QV_extract (Ev.tmp rfl) rfl) ?_
  simp only [zS0, zS1, zTn, Nat.reduceAdd, Nat.reduceMul, Int.reduceToNat, zG0, zG1, zG2, zCa, zCi, zCb, zCs, zCf, zCn, zCt, zCm, zCp]
  refine' HL_q rfl rfl (QV_extract (Ev.tmp rfl) rfl) ?_
  simp only [zS0, zS1, zTn, Nat.reduceAdd, Nat.reduceMul, Int.reduceToNat, zG0, zG1, zG2, zCa, zCi, zCb, zCs, zCf, zCn, zCt, zCm, zCp]
  refine' HL_q rfl rfl (QV_assign (Ev.tmp rfl)) ?_
  simp only [zS0, zS1, zTn, Nat.reduceAdd, Nat.reduceMul, Int.reduceToNat, zG0, zG1, zG2, zCa, zCi, zCb, zCs, zCf, zCn, zCt, zCm, zCp]
  refine' HL_q rfl rfl (QV_assign (Ev.tmp rfl)) ?_
  simp only [zS0, zS1, zTn, Nat.reduceAdd, Nat.reduceMul, Int.reduceToNat, zG0, zG1, zG2, zCa, zCi, zCb, zCs, zCf, zCn, zCt, zCm, zCp]
  refine HL_nil ?_
  refine hN4 _ _ ?_
  try clear hN4 N4
  obtain ⟨rfl, rfl⟩ := opSpec_eval hs3 ⟨s3, s4⟩ s5.1 (by decide) (fun n => by rw [Bool.eq_iff_iff]; simp [memR]; omega)
  refine HC_seq fun N5 hN5 => ?_
  refine HC_region ?_
  -- operation 0
  refine' HL_call rfl en48 (call_fn (EvL.cons Ev.const (EvL.cons Ev.const EvL.nil)).evs) (rg_calls) ?_
  rintro _ _ ⟨rfl, rfl⟩
  simp only [zS0, zS1, zTn, Nat.reduceAdd, Nat.reduceMul, Int.reduceToNat, zG0, zG1, zG2, zCa, zCi, zCb, zCs, zCf, zCn, zCt, zCm, zCp]
  -- operation 1
  refine' HL_call rfl en35 (call_fn (EvL.cons Ev.const (EvL.cons (Ev.tmp rfl) EvL.nil)).evs) ((add_calls (A := none) (c := 0) (l := []) (x := 2) (y := 1) Sl.nil (fun r hr => (by cases hr)) (by decide))) ?_
  rintro _ _ ⟨A4, c4, o4, e4, rfl, rfl, hl4, hs4⟩
  simp only [zS0, zS1, zTn, Nat.reduceAdd, Nat.reduceMul, Int.reduceToNat, zG0, zG1, zG2, zCa, zCi, zCb, zCs, zCf, zCn, zCt, zCm, zCp]
  refine' HL_q rfl rfl (QV_move (Ev.tmp rfl)) ?_
  simp only [zS0, zS1, zTn, Nat.reduceAdd, Nat.reduceMul, Int.reduceToNat, zG0, zG1, zG2, zCa, zCi, zCb, zCs, zCf, zCn, zCt, zCm, zCp]
  refine' HL_q rfl rfl (QV_extract (Ev.tmp rfl) rfl) ?_
  simp only [zS0, zS1, zTn, Nat.reduceAdd, Nat.reduceMul, Int.reduceToNat, zG0, zG1, zG2, zCa, zCi, zCb, zCs, zCf, zCn, zCt, zCm, zCp]
  refine' HL_q rfl rfl (QV_extract (Ev.tmp rfl) rfl) ?_
  simp only [zS0, zS1, zTn, Nat.reduceAdd, Nat.reduceMul, Int.reduceToNat, zG0, zG1, zG2, zCa, zCi, zCb, zCs, zCf, zCn, zCt, zCm, zCp]
  refine' HL_q rfl rfl (QV_assign (Ev.tmp rfl)) ?_
  simp only [zS0, zS1, zTn, Nat.reduceAdd, Nat.reduceMul, Int.reduceToNat, zG0, zG1, zG2, zCa, zCi, zCb, zCs, zCf, zCn, zCt, zCm, zCp]
  refine' HL_q rfl rfl (QV_assign (Ev.tmp rfl)) ?_
  simp only [zS0, zS1, zTn, Nat.reduceAdd, Nat.reduceMul, Int.reduceToNat, zG0, zG1, zG2, zCa, zCi, zCb, zCs, zCf, zCn, zCt, zCm, zCp]
  refine HL_nil ?_
  refine hN5 _ _ ?_
  try clear hN5 N5
  obtain ⟨rfl, rfl⟩ : o4 = [] ∧ e4 = 1 := by
    rcases hs4 with ⟨_, h1, h2⟩ | ⟨⟨_, h⟩, _⟩
    · exact ⟨h2, h1⟩
    · exact absurd h (by decide)
  refine HC_seq fun N6 hN6 => ?_
  refine HC_region ?_
  refine' HL_q rfl rfl (QV_move (Ev.tmp rfl)) ?_
  simp only [zS0, zS1, zTn, Nat.reduceAdd, Nat.reduceMul, Int.reduceToNat, zG0, zG1, zG2, zCa, zCi, zCb, zCs, zCf, zCn, zCt, zCm, zCp, eq_self, decide_true]
  first
    | (refine' HL_q rfl rfl (QV_eql_y (Ev.tmp rfl) Ev.const ?hb) ?_; case hb => omega)
    | (refine' HL_q rfl rfl (QV_eql_n (Ev.tmp rfl) Ev.const ?hb) ?_; case hb => omega)
    | (refine' HL_q rfl rfl (QV_eql (Ev.tmp rfl) Ev.const) ?_)
  simp only [zS0, zS1, zTn, Nat.reduceAdd, Nat.reduceMul, Int.reduceToNat, zG0, zG1, zG2, zCa, zCi, zCb, zCs, zCf, zCn, zCt, zCm, zCp, eq_self, decide_true]
  refine' HL_q rfl rfl (QV_move (Ev.tmp rfl)) ?_
  simp only [zS0, zS1, zTn, Nat.reduceAdd, Nat.reduceMul, Int.reduceToNat, zG0, zG1, zG2, zCa, zCi, zCb, zCs, zCf, zCn, zCt, zCm, zCp, eq_self, decide_true]
  first
    | (refine HL_skip rfl ?_; simp only [zS0, zS1, zTn, Nat.reduceAdd, Nat.reduceMul, Int.reduceToNat, zG0, zG1, zG2, zCa, zCi, zCb, zCs, zCf, zCn, zCt, zCm, zCp, eq_self, decide_true])
    |
      refine' HL_q rfl rfl (QV_move (Ev.tmp rfl)) ?_
      simp only [zS0, zS1, zTn, Nat.reduceAdd, Nat.reduceMul, Int.reduceToNat, zG0, zG1, zG2, zCa, zCi, zCb, zCs, zCf, zCn, zCt, zCm, zCp, eq_self, decide_true]
  first
    | (refine HL_skip rfl ?_; simp only [zS0, zS1, zTn, Nat.reduceAdd, Nat.reduceMul, Int.reduceToNat, zG0, zG1, zG2, zCa, zCi, zCb, zCs, zCf, zCn, zCt, zCm, zCp, eq_self, decide_true])
    |
      first
        | (refine' HL_q rfl rfl (QV_eql_y (Ev.tmp rfl) Ev.const ?hb) ?_; case hb => omega)
        | (refine' HL_q rfl rfl (QV_eql_n (Ev.tmp rfl) Ev.const ?hb) ?_; case hb => omega)
        | (refine' HL_q rfl rfl (QV_eql (Ev.tmp rfl) Ev.const) ?_)
      simp only [zS0, zS1, zTn, Nat.reduceAdd, Nat.reduceMul, Int.reduceToNat, zG0, zG1, zG2, zCa, zCi, zCb, zCs, zCf, zCn, zCt, zCm, zCp, eq_self, decide_true]
  refine' HL_q rfl rfl (QV_pick (Ev.tmp rfl) (Ev.tmp rfl) Ev.const) ?_
  simp only [if_true, if_false, Bool.false_eq_true, reduceIte, zS0, zS1, zTn, Nat.reduceAdd, Nat.reduceMul, Int.reduceToNat, zG0, zG1, zG2, zCa, zCi, zCb, zCs, zCf, zCn, zCt, zCm, zCp, eq_self, decide_true]
  refine' HL_q rfl rfl (QV_move (Ev.tmp rfl)) ?_
  simp only [zS0, zS1, zTn, Nat.reduceAdd, Nat.reduceMul, Int.reduceToNat, zG0, zG1, zG2, zCa, zCi, zCb, zCs, zCf, zCn, zCt, zCm, zCp, eq_self, decide_true]
  first
    | (refine HL_skip rfl ?_; simp only [zS0, zS1, zTn, Nat.reduceAdd, Nat.reduceMul, Int.reduceToNat, zG0, zG1, zG2, zCa, zCi, zCb, zCs, zCf, zCn, zCt, zCm, zCp, eq_self, decide_true])
    |
      refine' HL_q rfl rfl (QV_move (Ev.tmp rfl)) ?_
      simp only [zS0, zS1, zTn, Nat.reduceAdd, Nat.reduceMul, Int.reduceToNat, zG0, zG1, zG2, zCa, zCi, zCb, zCs, zCf, zCn, zCt, zCm, zCp, eq_self, decide_true]
  first
    | (refine HL_skip rfl ?_; simp only [zS0, zS1, zTn, Nat.reduceAdd, Nat.reduceMul, Int.reduceToNat, zG0, zG1, zG2, zCa, zCi, zCb, zCs, zCf, zCn, zCt, zCm, zCp, eq_self, decide_true])
    |
      first
        | (refine' HL_q rfl rfl (QV_eql_y (Ev.tmp rfl) Ev.const ?hb) ?_; case hb => omega)
        | (refine' HL_q rfl rfl (QV_eql_n (Ev.tmp rfl) Ev.const ?hb) ?_; case hb => omega)
        | (refine' HL_q rfl rfl (QV_eql (Ev.tmp rfl) Ev.const) ?_)
      simp only [zS0, zS1, zTn, Nat.reduceAdd, Nat.reduceMul, Int.reduceToNat, zG0, zG1, zG2, zCa, zCi, zCb, zCs, zCf, zCn, zCt, zCm, zCp, eq_self, decide_true]
  refine' HL_q rfl rfl (QV_pick (Ev.tmp rfl) (Ev.tmp rfl) Ev.const) ?_
  simp only [if_true, if_false, Bool.false_eq_true, reduceIte, zS0, zS1, zTn, Nat.reduceAdd, Nat.reduceMul, Int.reduceToNat, zG0, zG1, zG2, zCa, zCi, zCb, zCs, zCf, zCn, zCt, zCm, zCp, eq_self, decide_true]
  refine' HL_q rfl rfl (QV_move (Ev.tmp rfl)) ?_
  simp only [zS0, zS1, zTn, Nat.reduceAdd, Nat.reduceMul, Int.reduceToNat, zG0, zG1, zG2, zCa, zCi, zCb, zCs, zCf, zCn, zCt, zCm, zCp, eq_self, decide_true]
  first
    | (refine HL_skip rfl ?_; simp only [zS0, zS1, zTn, Nat.reduceAdd, Nat.reduceMul, Int.reduceToNat, zG0, zG1, zG2, zCa, zCi, zCb, zCs, zCf, zCn, zCt, zCm, zCp, eq_self, decide_true])
    |
      refine' HL_q rfl rfl (QV_move (Ev.tmp rfl)) ?_
      simp only [zS0, zS1, zTn, Nat.reduceAdd, Nat.reduceMul, Int.reduceToNat, zG0, zG1, zG2, zCa, zCi, zCb, zCs, zCf, zCn, zCt, zCm, zCp, eq_self, decide_true]
  first
    | (refine HL_skip rfl ?_; simp only [zS0, zS1, zTn, Nat.reduceAdd, Nat.reduceMul, Int.reduceToNat, zG0, zG1, zG2, zCa, zCi, zCb, zCs, zCf, zCn, zCt, zCm, zCp, eq_self, decide_true])
    |
      first
        | (refine' HL_q rfl rfl (QV_eql_y (Ev.tmp rfl) Ev.const ?hb) ?_; case hb => omega)
        | (refine' HL_q rfl rfl (QV_eql_n (Ev.tmp rfl) Ev.const ?hb) ?_; case hb => omega)
        | (refine' HL_q rfl rfl (QV_eql (Ev.tmp rfl) Ev.const) ?_)
      simp only [zS0, zS1, zTn, Nat.reduceAdd, Nat.reduceMul, Int.reduceToNat, zG0, zG1, zG2, zCa, zCi, zCb, zCs, zCf, zCn, zCt, zCm, zCp, eq_self, decide_true]
  refine' HL_q rfl rfl (QV_pick (Ev.tmp rfl) (Ev.tmp rfl) Ev.const) ?_
  simp only [if_true, if_false, Bool.false_eq_true, reduceIte, zS0, zS1, zTn, Nat.reduceAdd, Nat.reduceMul, Int.reduceToNat, zG0, zG1, zG2, zCa, zCi, zCb, zCs, zCf, zCn, zCt, zCm, zCp, eq_self, decide_true]
  refine' HL_q rfl rfl (QV_move (Ev.tmp rfl)) ?_
  simp only [zS0, zS1, zTn, Nat.reduceAdd, Nat.reduceMul, Int.reduceToNat, zG0, zG1, zG2, zCa, zCi, zCb, zCs, zCf, zCn, zCt, zCm, zCp, eq_self, decide_true]
  first
    | (refine HL_skip rfl ?_; simp only [zS0, zS1, zTn, Nat.reduceAdd, Nat.reduceMul, Int.reduceToNat, zG0, zG1, zG2, zCa, zCi, zCb, zCs, zCf, zCn, zCt, zCm, zCp, eq_self, decide_true])
    |
      refine' HL_q rfl rfl (QV_move (Ev.tmp rfl)) ?_
      simp only [zS0, zS1, zTn, Nat.reduceAdd, Nat.reduceMul, Int.reduceToNat, zG0, zG1, zG2, zCa, zCi, zCb, zCs, zCf, zCn, zCt, zCm, zCp, eq_self, decide_true]
  -- operation 16
  refine' HL_call rfl en48 (call_fn (EvL.cons Ev.const (EvL.cons Ev.const EvL.nil)).evs) (rg_calls) ?_
  rintro _ _ ⟨rfl, rfl⟩
  simp only [zS0, zS1, zTn, Nat.reduceAdd, Nat.reduceMul, Int.reduceToNat, zG0, zG1, zG2, zCa, zCi, zCb, zCs, zCf, zCn, zCt, zCm, zCp, eq_self, decide_true]
  -- operation 17
  refine' HL_s rfl rfl (SO_buildSlice (EvL.cons (Ev.tmp rfl) EvL.nil) ?hr) ?_
  case hr => exact bs34 _ _
  rintro _ _ ⟨g55, rfl, rfl⟩
  simp only [zS0, zS1, zTn, Nat.reduceAdd, Nat.reduceMul, Int.reduceToNat, zG0, zG1, zG2, zCa, zCi, zCb, zCs, zCf, zCn, zCt, zCm, zCp, eq_self, decide_true]
  -- operation 18
  refine' HL_call rfl en38 (call_fn (EvL.cons (Ev.tmp rfl) (EvL.cons (Ev.tmp rfl) EvL.nil)).evs) ((same_calls (l := [(1, 9)]) (m := [(1, 9)]) (hl1.sub (by (repeat (first | with_reducible exact List.Sublist.refl _ | with_reducible exact List.nil_sublist _ | with_reducible apply List.Sublist.cons_cons | with_reducible apply List.Sublist.cons)))) (sl_rg (by repeat (first | exact List.Mem.head _ | assumption | apply List.Mem.tail)) rfl) (by decide) (by decide))) ?_
  rintro _ _ ⟨rfl, rfl⟩
  simp only [zS0, zS1, zTn, Nat.reduceAdd, Nat.reduceMul, Int.reduceToNat, zG0, zG1, zG2, zCa, zCi, zCb, zCs, zCf, zCn, zCt, zCm, zCp, eq_self, decide_true]
  refine' HL_q rfl rfl (QV_pick (Ev.tmp rfl) (Ev.tmp rfl) Ev.const) ?_
  simp only [if_true, if_false, Bool.false_eq_true, reduceIte, zS0, zS1, zTn, Nat.reduceAdd, Nat.reduceMul, Int.reduceToNat, zG0, zG1, zG2, zCa, zCi, zCb, zCs, zCf, zCn, zCt, zCm, zCp, eq_self, decide_true]
  refine' HL_q rfl rfl (QV_move (Ev.tmp rfl)) ?_
  simp only [zS0, zS1, zTn, Nat.reduceAdd, Nat.reduceMul, Int.reduceToNat, zG0, zG1, zG2, zCa, zCi, zCb, zCs, zCf, zCn, zCt, zCm, zCp, eq_self, decide_true]
  first
    | (refine HL_skip rfl ?_; simp only [zS0, zS1, zTn, Nat.reduceAdd, Nat.reduceMul, Int.reduceToNat, zG0, zG1, zG2, zCa, zCi, zCb, zCs, zCf, zCn, zCt, zCm, zCp, eq_self, decide_true])
    |
      refine' HL_q rfl rfl (QV_move (Ev.tmp rfl)) ?_
      simp only [zS0, zS1, zTn, Nat.reduceAdd, Nat.reduceMul, Int.reduceToNat, zG0, zG1, zG2, zCa, zCi, zCb, zCs, zCf, zCn, zCt, zCm, zCp, eq_self, decide_true]
  -- operation 22
  refine' HL_call rfl en48 (call_fn (EvL.cons Ev.const (EvL.cons Ev.const EvL.nil)).evs) (rg_calls) ?_
  rintro _ _ ⟨rfl, rfl⟩
  simp only [zS0, zS1, zTn, Nat.reduceAdd, Nat.reduceMul, Int.reduceToNat, zG0, zG1, zG2, zCa, zCi, zCb, zCs, zCf, zCn, zCt, zCm, zCp, eq_self, decide_true]
  -- operation 23
  refine' HL_call rfl en48 (call_fn (EvL.cons Ev.const (EvL.cons Ev.const EvL.nil)).evs) (rg_calls) ?_
  rintro _ _ ⟨rfl, rfl⟩
  simp only [zS0, zS1, zTn, Nat.reduceAdd, Nat.reduceMul, Int.reduceToNat, zG0, zG1, zG2, zCa, zCi, zCb, zCs, zCf, zCn, zCt, zCm, zCp, eq_self, decide_true]
  -- operation 24
  refine' HL_s rfl rfl (SO_buildSlice (EvL.cons (Ev.tmp rfl) (EvL.cons (Ev.tmp rfl) EvL.nil)) ?hr) ?_
  case hr => exact bs34b _ _ _ _
  rintro _ _ ⟨g62, rfl, rfl⟩
  simp only [zS0, zS1, zTn, Nat.reduceAdd, Nat.reduceMul, Int.reduceToNat, zG0, zG1, zG2, zCa, zCi, zCb, zCs, zCf, zCn, zCt, zCm, zCp, eq_self, decide_true]
  -- operation 25
  refine' HL_call rfl en38 (call_fn (EvL.cons (Ev.tmp rfl) (EvL.cons (Ev.tmp rfl) EvL.nil)).evs) ((same_calls (l := [(1, 3), (7, 9)]) (m := [(1, 3), (7, 9)]) (hl2.sub (by (repeat (first | with_reducible exact List.Sublist.refl _ | with_reducible exact List.nil_sublist _ | with_reducible apply List.Sublist.cons_cons | with_reducible apply List.Sublist.cons)))) (sl_rg (by repeat (first | exact List.Mem.head _ | assumption | apply List.Mem.tail)) rfl) (by decide) (by decide))) ?_
  rintro _ _ ⟨rfl, rfl⟩
  simp only [zS0, zS1, zTn, Nat.reduceAdd, Nat.reduceMul, Int.reduceToNat, zG0, zG1, zG2, zCa, zCi, zCb, zCs, zCf, zCn, zCt, zCm, zCp, eq_self, decide_true]
  refine' HL_q rfl rfl (QV_pick (Ev.tmp rfl) (Ev.tmp rfl) Ev.const) ?_
  simp only [if_true, if_false, Bool.false_eq_true, reduceIte, zS0, zS1, zTn, Nat.reduceAdd, Nat.reduceMul, Int.reduceToNat, zG0, zG1, zG2, zCa, zCi, zCb, zCs, zCf, zCn, zCt, zCm, zCp, eq_self, decide_true]
  refine' HL_q rfl rfl (QV_move (Ev.tmp rfl)) ?_
  simp only [zS0, zS1, zTn, Nat.reduceAdd, Nat.reduceMul, Int.reduceToNat, zG0, zG1, zG2, zCa, zCi, zCb, zCs, zCf, zCn, zCt, zCm, zCp, eq_self, decide_true]
  first
    | (refine HL_skip rfl ?_; simp only [zS0, zS1, zTn, Nat.reduceAdd, Nat.reduceMul, Int.reduceToNat, zG0, zG1, zG2, zCa, zCi, zCb, zCs, zCf, zCn, zCt, zCm, zCp, eq_self, decide_true])
    |
      refine' HL_q rfl rfl (QV_move (Ev.tmp rfl)) ?_
      simp only [zS0, zS1, zTn, Nat.reduceAdd, Nat.reduceMul, Int.reduceToNat, zG0, zG1, zG2, zCa, zCi, zCb, zCs, zCf, zCn, zCt, zCm, zCp, eq_self, decide_true]
  -- operation 29
  refine' HL_call rfl en48 (call_fn (EvL.cons Ev.const (EvL.cons Ev.const EvL.nil)).evs) (rg_calls) ?_
  rintro _ _ ⟨rfl, rfl⟩
  simp only [zS0, zS1, zTn, Nat.reduceAdd, Nat.reduceMul, Int.reduceToNat, zG0, zG1, zG2, zCa, zCi, zCb, zCs, zCf, zCn, zCt, zCm, zCp, eq_self, decide_true]
  -- operation 30
  refine' HL_call rfl en48 (call_fn (EvL.cons Ev.const (EvL.cons Ev.const EvL.nil)).evs) (rg_calls) ?_
  rintro _ _ ⟨rfl, rfl⟩
  simp only [zS0, zS1, zTn, Nat.reduceAdd, Nat.reduceMul, Int.reduceToNat, zG0, zG1, zG2, zCa, zCi, zCb, zCs, zCf, zCn, zCt, zCm, zCp, eq_self, decide_true]
  -- operation 31
  refine' HL_s rfl rfl (SO_buildSlice (EvL.cons (Ev.tmp rfl) (EvL.cons (Ev.tmp rfl) EvL.nil)) ?hr) ?_
  case hr => exact bs34b _ _ _ _
  rintro _ _ ⟨g69, rfl, rfl⟩
  simp only [zS0, zS1, zTn, Nat.reduceAdd, Nat.reduceMul, Int.reduceToNat, zG0, zG1, zG2, zCa, zCi, zCb, zCs, zCf, zCn, zCt, zCm, zCp, eq_self, decide_true]
  -- operation 32
  refine' HL_call rfl en38 (call_fn (EvL.cons (Ev.tmp rfl) (EvL.cons (Ev.tmp rfl) EvL.nil)).evs) ((same_calls (l := [(4, 5), (8, 8)]) (m := [(4, 5), (8, 8)]) (hl3.sub (by (repeat (first | with_reducible exact List.Sublist.refl _ | with_reducible exact List.nil_sublist _ | with_reducible apply List.Sublist.cons_cons | with_reducible apply List.Sublist.cons)))) (sl_rg (by repeat (first | exact List.Mem.head _ | assumption | apply List.Mem.tail)) rfl) (by decide) (by decide))) ?_
  rintro _ _ ⟨rfl, rfl⟩
  simp only [zS0, zS1, zTn, Nat.reduceAdd, Nat.reduceMul, Int.reduceToNat, zG0, zG1, zG2, zCa, zCi, zCb, zCs, zCf, zCn, zCt, zCm, zCp, eq_self, decide_true]
  refine' HL_q rfl rfl (QV_pick (Ev.tmp rfl) (Ev.tmp rfl) Ev.const) ?_
  simp only [if_true, if_false, Bool.false_eq_true, reduceIte, zS0, zS1, zTn, Nat.reduceAdd, Nat.reduceMul, Int.reduceToNat, zG0, zG1, zG2, zCa, zCi, zCb, zCs, zCf, zCn, zCt, zCm, zCp, eq_self, decide_true]
  refine' HL_q rfl rfl (QV_move (Ev.tmp rfl)) ?_
  simp only [zS0, zS1, zTn, Nat.reduceAdd, Nat.reduceMul, Int.reduceToNat, zG0, zG1, zG2, zCa, zCi, zCb, zCs, zCf, zCn, zCt, zCm, zCp, eq_self, decide_true]
  first
    | (refine HL_skip rfl ?_; simp only [zS0, zS1, zTn, Nat.reduceAdd, Nat.reduceMul, Int.reduceToNat, zG0, zG1, zG2, zCa, zCi, zCb, zCs, zCf, zCn, zCt, zCm, zCp, eq_self, decide_true])
    |
      refine' HL_q rfl rfl (QV_move (Ev.tmp rfl)) ?_
      simp only [zS0, zS1, zTn, Nat.reduceAdd, Nat.reduceMul, Int.reduceToNat, zG0, zG1, zG2, zCa, zCi, zCb, zCs, zCf, zCn, zCt, zCm, zCp, eq_self, decide_true]
  -- operation 36
  refine' HL_call rfl en45 (call_fn (EvL.cons (Ev.tmp rfl) EvL.nil).evs) ((check_calls (l := [(1, 3), (7, 9)]) (hl2.sub (by (repeat (first | with_reducible exact List.Sublist.refl _ | with_reducible exact List.nil_sublist _ | with_reducible apply List.Sublist.cons_cons | with_reducible apply List.Sublist.cons)))) (wide_of s1.1) (by decide))) ?_
  rintro _ _ ⟨b, rfl, hb, rfl⟩
  obtain rfl : b = true := hb.2 s1
  simp only [zS0, zS1, zTn, Nat.reduceAdd, Nat.reduceMul, Int.reduceToNat, zG0, zG1, zG2, zCa, zCi, zCb, zCs, zCf, zCn, zCt, zCm, zCp, eq_self, decide_true]
  refine' HL_q rfl rfl (QV_pick (Ev.tmp rfl) (Ev.tmp rfl) Ev.const) ?_
  simp only [if_true, if_false, Bool.false_eq_true, reduceIte, zS0, zS1, zTn, Nat.reduceAdd, Nat.reduceMul, Int.reduceToNat, zG0, zG1, zG2, zCa, zCi, zCb, zCs, zCf, zCn, zCt, zCm, zCp, eq_self, decide_true]
  refine' HL_q rfl rfl (QV_move (Ev.tmp rfl)) ?_
  simp only [zS0, zS1, zTn, Nat.reduceAdd, Nat.reduceMul, Int.reduceToNat, zG0, zG1, zG2, zCa, zCi, zCb, zCs, zCf, zCn, zCt, zCm, zCp, eq_self, decide_true]
  -- operation 39
  refine' HL_call rfl en48 (call_fn (EvL.cons Ev.const (EvL.cons Ev.const EvL.nil)).evs) (rg_calls) ?_
  rintro _ _ ⟨rfl, rfl⟩
  simp only [zS0, zS1, zTn, Nat.reduceAdd, Nat.reduceMul, Int.reduceToNat, zG0, zG1, zG2, zCa, zCi, zCb, zCs, zCf, zCn, zCt, zCm, zCp, eq_self, decide_true]
  -- operation 40
  refine' HL_call rfl en48 (call_fn (EvL.cons Ev.const (EvL.cons Ev.const EvL.nil)).evs) (rg_calls) ?_
  rintro _ _ ⟨rfl, rfl⟩
  simp only [zS0, zS1, zTn, Nat.reduceAdd, Nat.reduceMul, Int.reduceToNat, zG0, zG1, zG2, zCa, zCi, zCb, zCs, zCf, zCn, zCt, zCm, zCp, eq_self, decide_true]
  -- operation 41
  refine' HL_s rfl rfl (SO_buildSlice (EvL.cons (Ev.tmp rfl) (EvL.cons (Ev.tmp rfl) EvL.nil)) ?hr) ?_
  case hr => exact bs34b _ _ _ _
  rintro _ _ ⟨g79, rfl, rfl⟩
  simp only [zS0, zS1, zTn, Nat.reduceAdd, Nat.reduceMul, Int.reduceToNat, zG0, zG1, zG2, zCa, zCi, zCb, zCs, zCf, zCn, zCt, zCm, zCp, eq_self, decide_true]
  -- operation 42
  refine' HL_call rfl en45 (call_fn (EvL.cons (Ev.tmp rfl) EvL.nil).evs) ((check_calls (l := [(1, 3), (4, 5)]) (sl_rg (by repeat (first | exact List.Mem.head _ | assumption | apply List.Mem.tail)) rfl) (fun r hr => by simp at hr; rcases hr with rfl | rfl <;> decide) (by decide))) ?_
  rintro _ _ ⟨b, rfl, hb, rfl⟩
  obtain rfl : b = false := (by cases b <;> first | rfl | exact absurd (hb.1 rfl) s6)
  simp only [zS0, zS1, zTn, Nat.reduceAdd, Nat.reduceMul, Int.reduceToNat, zG0, zG1, zG2, zCa, zCi, zCb, zCs, zCf, zCn, zCt, zCm, zCp, eq_self, decide_true]
  first
    | (refine HL_skip rfl ?_; simp only [zS0, zS1, zTn, Nat.reduceAdd, Nat.reduceMul, Int.reduceToNat, zG0, zG1, zG2, zCa, zCi, zCb, zCs, zCf, zCn, zCt, zCm, zCp, eq_self, decide_true])
    |
      refine' HL_q rfl rfl (QV_un (Ev.tmp rfl) ?hr) ?_
      case hr => intro w; first | (go_simp; done) | (go_simp; rfl)
      simp only [zS0, zS1, zTn, Nat.reduceAdd, Nat.reduceMul, Int.reduceToNat, zG0, zG1, zG2, zCa, zCi, zCb, zCs, zCf, zCn, zCt, zCm, zCp, eq_self, decide_true]
  refine' HL_q rfl rfl (QV_pick (Ev.tmp rfl) (Ev.tmp rfl) Ev.const) ?_
  simp only [if_true, if_false, Bool.false_eq_true, reduceIte, zS0, zS1, zTn, Nat.reduceAdd, Nat.reduceMul, Int.reduceToNat, zG0, zG1, zG2, zCa, zCi, zCb, zCs, zCf, zCn, zCt, zCm, zCp, eq_self, decide_true]
  refine' HL_q rfl rfl (QV_assign (Ev.tmp rfl)) ?_
  simp only [zS0, zS1, zTn, Nat.reduceAdd, Nat.reduceMul, Int.reduceToNat, zG0, zG1, zG2, zCa, zCi, zCb, zCs, zCf, zCn, zCt, zCm, zCp, eq_self, decide_true]
  refine HL_nil ?_
  refine hN6 _ _ ?_
  try clear hN6 N6
  refine HC_ret ?_
  try simp only [thenK, blockK]
  refine kr _ _ ?_
  refine' Lv_tmp rfl rfl ?post ?le
  case post => exact ⟨rfl, rfl⟩
  case le => (first | with_reducible exact Le.refl | (refine Le.of ?_; (repeat (first | with_reducible exact Sp.refl | with_reducible exact Sp.nil | (apply Sp.pick; focus ((repeat (first | with_reducible exact Rm.head | with_reducible apply Rm.tail)); done)) | with_reducible refine Sp.drop ?_))))
end Go.Proofs.Ytcilfoicoambhaa
