import Derived.Test.YtcilfoicoambhaaSo6
set_option linter.unusedVariables false
set_option linter.unusedSimpArgs false
set_option maxRecDepth 20000
set_option maxHeartbeats 2000000
namespace Go.Proofs.Ytcilfoicoambhaa
open Go Go.Hw Go.RowKit

variable {w0 : World} {R : List Asn}

theorem insertion_nil {A : Option Addr} {c : Nat} : CH Try.prog w0 113 #[.slice A 0 c, .int .i64 0, .int .i64 0, .func (.func 110) #[] #[]] R fun v R' => R' = R := by
  refine CH_of Try.func113 rfl fun K kn kr kp => ?_
  simp only [Try.ntmps113, List.size_toArray, List.length_cons, List.length_nil, Nat.reduceAdd, Nat.reduceSub, Array.replicate_succ, Array.replicate_zero, List.push_toArray, List.append_toArray, List.nil_append, List.cons_append]
  refine HC_seq fun N1 hN1 => ?_
  refine HC_region ?_
  refine' HL_q rfl rfl (QV_move (Ev.tmp rfl)) ?_
  simp only [zS0, zS1, zTn, Nat.reduceAdd, Nat.reduceMul, Int.reduceToNat, zG0, zG1, zG2, zCa, zCi, zCb, zCs, zCf, zCn, zCt, zCm, zCp]
  refine' HL_q rfl rfl (QV_add (Ev.tmp rfl) Ev.const ?hr) ?_
  case hr => first | exact IntWalk.i64_in _ (by omega) | exact IntWalk.u64_in _ (by omega) | exact IntWalk.u8_in _ (by omega) | exact IntWalk.u32_in _ (by omega) | exact IntWalk.i64_quo _ _ (by omega) | exact IntWalk.u64_quo _ _ (by omega) | rfl
  simp only [zS0, zS1, zTn, Nat.reduceAdd, Nat.reduceMul, Int.reduceToNat, zG0, zG1, zG2, zCa, zCi, zCb, zCs, zCf, zCn, zCt, zCm, zCp]
  refine' HL_q rfl rfl (QV_assign (Ev.tmp rfl)) ?_
  simp only [zS0, zS1, zTn, Nat.reduceAdd, Nat.reduceMul, Int.reduceToNat, zG0, zG1, zG2, zCa, zCi, zCb, zCs, zCf, zCn, zCt, zCm, zCp]
  refine HL_nil ?_
  refine hN1 _ _ ?_
  try clear hN1 N1
  refine HC_block ?_
  refine HC_loop [8] [false, false, false, false, false, false, false, false, false, true, false, false, true, true, true, true, true, true, true, true, true, true, true, true, true, true, true, true, true, true, true, true, true, true, true, true, true, true, true, true, true, true, true, true, true, true, true, true, true, true, true, true, true] (fun gh vs RR => vs = [(.int .i64 (1 : Nat))] ∧ gh = 0 ∧ RR = R) ?start ?round
  case start =>
    simp only [List.map_cons, List.map_nil, List.getD_cons_zero, List.getD_cons_succ]
    refine' ⟨_, _, ?le, rfl, rfl, rfl⟩
    case le => (first | with_reducible exact Le.refl | (refine Le.of ?_; (repeat (first | with_reducible exact Sp.refl | with_reducible exact Sp.nil | (apply Sp.pick; focus ((repeat (first | with_reducible exact Rm.head | with_reducible apply Rm.tail)); done)) | with_reducible refine Sp.drop ?_))))
  case round =>
    rintro _ _ _ u ⟨rfl, rfl, rfl⟩ NL0 hL0
    simp only [setL, fill, List.set_cons_zero, List.set_cons_succ, Nat.reduceAdd]
    refine HC_seq fun N2 hN2 => ?_
    refine HC_seq fun N3 hN3 => ?_
    refine HC_region ?_
    refine' HL_q rfl rfl (QV_move (Ev.tmp rfl)) ?_
    simp only [zS0, zS1, zTn, Nat.reduceAdd, Nat.reduceMul, Int.reduceToNat, zG0, zG1, zG2, zCa, zCi, zCb, zCs, zCf, zCn, zCt, zCm, zCp]
    refine' HL_q rfl rfl (QV_move (Ev.tmp rfl)) ?_
    simp only [zS0, zS1, zTn, Nat.reduceAdd, Nat.reduceMul, Int.reduceToNat, zG0, zG1, zG2, zCa, zCi, zCb, zCs, zCf, zCn, zCt, zCm, zCp]
    first
      | (refine' HL_q rfl rfl (QV_lss_y (Ev.tmp rfl) (Ev.tmp rfl) ?hb) ?_; case hb => omega)
      | (refine' HL_q rfl rfl (QV_lss_n (Ev.tmp rfl) (Ev.tmp rfl) ?hb) ?_; case hb => omega)
      | (refine' HL_q rfl rfl (QV_lss (Ev.tmp rfl) (Ev.tmp rfl)) ?_)
    simp only [zS0, zS1, zTn, Nat.reduceAdd, Nat.reduceMul, Int.reduceToNat, zG0, zG1, zG2, zCa, zCi, zCb, zCs, zCf, zCn, zCt, zCm, zCp]
    refine HL_nil ?_
    refine hN3 _ _ ?_
    try clear hN3 N3
    refine HC_false rfl ?_
    refine HC_exit ?_
    simp only [thenK, blockK, reduceIte]
    try simp only [thenK, blockK, reduceIte]
    refine kn _ _ ?_
    refine' Lv_none rfl ?post ?le
    case post => rfl
    case le => (first | with_reducible exact Le.refl | (refine Le.of ?_; (repeat (first | with_reducible exact Sp.refl | with_reducible exact Sp.nil | (apply Sp.pick; focus ((repeat (first | with_reducible exact Rm.head | with_reducible apply Rm.tail)); done)) | with_reducible refine Sp.drop ?_))))

theorem stable_nil {A : Option Addr} {c : Nat} : CH Try.prog w0 112 #[.slice A 0 c, .int .i64 0, .func (.func 110) #[] #[]] R fun v R' => R' = R := by
  refine CH_of Try.func112 rfl fun K kn kr kp => ?_
  simp only [Try.ntmps112, List.size_toArray, List.length_cons, List.length_nil, Nat.reduceAdd, Nat.reduceSub, Array.replicate_succ, Array.replicate_zero, List.push_toArray, List.append_toArray, List.nil_append, List.cons_append]
  refine HC_seq fun N1 hN1 => ?_
  refine HC_region ?_
  refine' HL_q rfl rfl (QV_assign Ev.const) ?_
  simp only [zS0, zS1, zTn, Nat.reduceAdd, Nat.reduceMul, Int.reduceToNat, zG0, zG1, zG2, zCa, zCi, zCb, zCs, zCf, zCn, zCt, zCm, zCp]
  refine HL_nil ?_
  refine hN1 _ _ ?_
  try clear hN1 N1
  refine HC_seq fun N2 hN2 => ?_
  refine HC_region ?_
  refine' HL_q rfl rfl (QV_move (Ev.tmp rfl)) ?_
  simp only [zS0, zS1, zTn, Nat.reduceAdd, Nat.reduceMul, Int.reduceToNat, zG0, zG1, zG2, zCa, zCi, zCb, zCs, zCf, zCn, zCt, zCm, zCp]
  refine' HL_q rfl rfl (QV_assign Ev.const) ?_
  simp only [zS0, zS1, zTn, Nat.reduceAdd, Nat.reduceMul, Int.reduceToNat, zG0, zG1, zG2, zCa, zCi, zCb, zCs, zCf, zCn, zCt, zCm, zCp]
  refine' HL_q rfl rfl (QV_assign (Ev.tmp rfl)) ?_
  simp only [zS0, zS1, zTn, Nat.reduceAdd, Nat.reduceMul, Int.reduceToNat, zG0, zG1, zG2, zCa, zCi, zCb, zCs, zCf, zCn, zCt, zCm, zCp]
  refine HL_nil ?_
  refine hN2 _ _ ?_
  try clear hN2 N2
  refine HC_seq fun N3 hN3 => ?_
  refine HC_block ?_
  refine HC_loop [7, 8] [false, false, false, false, false, false, false, false, false, false, false, true, true, true, true, true, true, true, true, true, true, true, true] (fun gh vs RR => vs = [(.int .i64 (0 : Nat)), (.int .i64 (20 : Nat))] ∧ gh = 0 ∧ RR = R) ?start ?round
  case start =>
    simp only [List.map_cons, List.map_nil, List.getD_cons_zero, List.getD_cons_succ]
    refine' ⟨_, _, ?le, rfl, rfl, rfl⟩
    case le => (first | with_reducible exact Le.refl | (refine Le.of ?_; (repeat (first | with_reducible exact Sp.refl | with_reducible exact Sp.nil | (apply Sp.pick; focus ((repeat (first | with_reducible exact Rm.head | with_reducible apply Rm.tail)); done)) | with_reducible refine Sp.drop ?_))))
  case round =>
    rintro _ _ _ u ⟨rfl, rfl, rfl⟩ NL1 hL1
    simp only [setL, fill, List.set_cons_zero, List.set_cons_succ, Nat.reduceAdd]
    refine HC_seq fun N4 hN4 => ?_
    refine HC_seq fun N5 hN5 => ?_
    refine HC_region ?_
    refine' HL_q rfl rfl (QV_move (Ev.tmp rfl)) ?_
    simp only [zS0, zS1, zTn, Nat.reduceAdd, Nat.reduceMul, Int.reduceToNat, zG0, zG1, zG2, zCa, zCi, zCb, zCs, zCf, zCn, zCt, zCm, zCp]
    refine' HL_q rfl rfl (QV_move (Ev.tmp rfl)) ?_
    simp only [zS0, zS1, zTn, Nat.reduceAdd, Nat.reduceMul, Int.reduceToNat, zG0, zG1, zG2, zCa, zCi, zCb, zCs, zCf, zCn, zCt, zCm, zCp]
    first
      | (refine' HL_q rfl rfl (QV_leq_y (Ev.tmp rfl) (Ev.tmp rfl) ?hb) ?_; case hb => omega)
      | (refine' HL_q rfl rfl (QV_leq_n (Ev.tmp rfl) (Ev.tmp rfl) ?hb) ?_; case hb => omega)
      | (refine' HL_q rfl rfl (QV_leq (Ev.tmp rfl) (Ev.tmp rfl)) ?_)
    simp only [zS0, zS1, zTn, Nat.reduceAdd, Nat.reduceMul, Int.reduceToNat, zG0, zG1, zG2, zCa, zCi, zCb, zCs, zCf, zCn, zCt, zCm, zCp]
    refine HL_nil ?_
    refine hN5 _ _ ?_
    try clear hN5 N5
    refine HC_false rfl ?_
    refine HC_exit ?_
    simp only [thenK, blockK, reduceIte]
    refine hN3 _ _ ?_
    try clear hN3 N3
    refine HC_seq fun N8 hN8 => ?_
    refine HC_region ?_
    refine' HL_q rfl rfl (QV_move (Ev.tmp rfl)) ?_
    simp only [zS0, zS1, zTn, Nat.reduceAdd, Nat.reduceMul, Int.reduceToNat, zG0, zG1, zG2, zCa, zCi, zCb, zCs, zCf, zCn, zCt, zCm, zCp]
    refine' HL_q rfl rfl (QV_move (Ev.tmp rfl)) ?_
    simp only [zS0, zS1, zTn, Nat.reduceAdd, Nat.reduceMul, Int.reduceToNat, zG0, zG1, zG2, zCa, zCi, zCb, zCs, zCf, zCn, zCt, zCm, zCp]
    refine' HL_q rfl rfl (QV_move (Ev.tmp rfl)) ?_
    simp only [zS0, zS1, zTn, Nat.reduceAdd, Nat.reduceMul, Int.reduceToNat, zG0, zG1, zG2, zCa, zCi, zCb, zCs, zCf, zCn, zCt, zCm, zCp]
    refine' HL_q rfl rfl (QV_move (Ev.tmp rfl)) ?_
    simp only [zS0, zS1, zTn, Nat.reduceAdd, Nat.reduceMul, Int.reduceToNat, zG0, zG1, zG2, zCa, zCi, zCb, zCs, zCf, zCn, zCt, zCm, zCp]
    -- operation 4
    refine' HL_call rfl en113 (call_fn (EvL.cons (Ev.tmp rfl) (EvL.cons (Ev.tmp rfl) (EvL.cons (Ev.tmp rfl) (EvL.cons (Ev.tmp rfl) EvL.nil)))).evs) (insertion_nil) ?_
    rintro _ _ rfl
    simp only [zS0, zS1, zTn, Nat.reduceAdd, Nat.reduceMul, Int.reduceToNat, zG0, zG1, zG2, zCa, zCi, zCb, zCs, zCf, zCn, zCt, zCm, zCp]
    refine HL_nil ?_
    refine hN8 _ _ ?_
    try clear hN8 N8
    refine HC_block ?_
    rename_i R
    refine HC_loop [6] [false, false, false, false, false, false, false, true, true, true, false, false, false, false, false, false, false, false, false, false, false, false, false, false, false, false, false, false, true, true, true, true, true, true, true, true, true, true, true, true, true, true, true, true, true, true, true, true, true, true, true, true, true, true, true, true, true, true, true, true, true, true, true] (fun gh vs RR => vs = [(.int .i64 (20 : Nat))] ∧ gh = 0 ∧ RR = R) ?start ?round
    case start =>
      simp only [List.map_cons, List.map_nil, List.getD_cons_zero, List.getD_cons_succ]
      refine' ⟨_, _, ?le, rfl, rfl, rfl⟩
      case le => (first | with_reducible exact Le.refl | (refine Le.of ?_; (repeat (first | with_reducible exact Sp.refl | with_reducible exact Sp.nil | (apply Sp.pick; focus ((repeat (first | with_reducible exact Rm.head | with_reducible apply Rm.tail)); done)) | with_reducible refine Sp.drop ?_))))
    case round =>
      rintro _ _ _ u ⟨rfl, rfl, rfl⟩ NL6 hL6
      simp only [setL, fill, List.set_cons_zero, List.set_cons_succ, Nat.reduceAdd]
      refine HC_seq fun N9 hN9 => ?_
      refine HC_seq fun N10 hN10 => ?_
      refine HC_region ?_
      refine' HL_q rfl rfl (QV_move (Ev.tmp rfl)) ?_
      simp only [zS0, zS1, zTn, Nat.reduceAdd, Nat.reduceMul, Int.reduceToNat, zG0, zG1, zG2, zCa, zCi, zCb, zCs, zCf, zCn, zCt, zCm, zCp]
      refine' HL_q rfl rfl (QV_move (Ev.tmp rfl)) ?_
      simp only [zS0, zS1, zTn, Nat.reduceAdd, Nat.reduceMul, Int.reduceToNat, zG0, zG1, zG2, zCa, zCi, zCb, zCs, zCf, zCn, zCt, zCm, zCp]
      first
        | (refine' HL_q rfl rfl (QV_lss_y (Ev.tmp rfl) (Ev.tmp rfl) ?hb) ?_; case hb => omega)
        | (refine' HL_q rfl rfl (QV_lss_n (Ev.tmp rfl) (Ev.tmp rfl) ?hb) ?_; case hb => omega)
        | (refine' HL_q rfl rfl (QV_lss (Ev.tmp rfl) (Ev.tmp rfl)) ?_)
      simp only [zS0, zS1, zTn, Nat.reduceAdd, Nat.reduceMul, Int.reduceToNat, zG0, zG1, zG2, zCa, zCi, zCb, zCs, zCf, zCn, zCt, zCm, zCp]
      refine HL_nil ?_
      refine hN10 _ _ ?_
      try clear hN10 N10
      refine HC_false rfl ?_
      refine HC_exit ?_
      simp only [thenK, blockK, reduceIte]
      try simp only [thenK, blockK, reduceIte]
      refine kn _ _ ?_
      refine' Lv_none rfl ?post ?le
      case post => rfl
      case le => (first | with_reducible exact Le.refl | (refine Le.of ?_; (repeat (first | with_reducible exact Sp.refl | with_reducible exact Sp.nil | (apply Sp.pick; focus ((repeat (first | with_reducible exact Rm.head | with_reducible apply Rm.tail)); done)) | with_reducible refine Sp.drop ?_))))

def Srt (ts : List Turn) : Prop := ts.Pairwise fun x y => tkey x ≤ tkey y
theorem map_getD {α : Type} [Inhabited α] (l : List α) : (List.range l.length).map (fun k => l.getD k default) = l := by
  apply List.ext_getElem?
  intro i
  by_cases hi : i < l.length
  · simp [hi, List.getD]
  · simp [hi]

theorem sortStable_calls {A : Option Addr} {c : Nat} {ts : List Turn} (hn : ts.length ≤ 500000) (hA : 0 < ts.length → ∃ g, A = some ⟨g, 0, none⟩) :
    CH Try.prog w0 109 #[.slice A ts.length c, .func (.func 110) #[] #[]] (own 172 3 (.slice A ts.length c) ts.length (ts.flatMap tc) :: R) fun v R' =>
      ∃ ts', ts'.Perm ts ∧ Srt ts' ∧ R' = own 172 3 (.slice A ts.length c) ts.length (ts'.flatMap tc) :: R := by
  rcases Nat.eq_zero_or_pos ts.length with h0 | h0
  · obtain rfl : ts = [] := List.eq_nil_of_length_eq_zero h0
    simp only [List.length_nil, List.flatMap_nil]
    refine CH_of Try.func109 rfl fun K kn kr kp => ?_
    simp only [Try.ntmps109, List.size_toArray, List.length_cons, List.length_nil, Nat.reduceAdd, Nat.reduceSub, Array.replicate_succ, Array.replicate_zero, List.push_toArray, List.append_toArray, List.nil_append, List.cons_append]
    refine HC_region ?_
    refine' HL_q rfl rfl (QV_move (Ev.tmp rfl)) ?_
    simp only [zS0, zS1, zTn, Nat.reduceAdd, Nat.reduceMul, Int.reduceToNat, zG0, zG1, zG2, zCa, zCi, zCb, zCs, zCf, zCn, zCt, zCm, zCp]
    refine' HL_q rfl rfl (QV_move (Ev.tmp rfl)) ?_
    simp only [zS0, zS1, zTn, Nat.reduceAdd, Nat.reduceMul, Int.reduceToNat, zG0, zG1, zG2, zCa, zCi, zCb, zCs, zCf, zCn, zCt, zCm, zCp]
    refine' HL_q rfl rfl (QV_len (Ev.tmp rfl) Try.underlying183) ?_
    simp only [zS0, zS1, zTn, Nat.reduceAdd, Nat.reduceMul, Int.reduceToNat, zG0, zG1, zG2, zCa, zCi, zCb, zCs, zCf, zCn, zCt, zCm, zCp]
    refine' HL_q rfl rfl (QV_move (Ev.tmp rfl)) ?_
    simp only [zS0, zS1, zTn, Nat.reduceAdd, Nat.reduceMul, Int.reduceToNat, zG0, zG1, zG2, zCa, zCi, zCb, zCs, zCf, zCn, zCt, zCm, zCp]
    -- operation 4
    refine' HL_call rfl en112 (call_fn (EvL.cons (Ev.tmp rfl) (EvL.cons (Ev.tmp rfl) (EvL.cons (Ev.tmp rfl) EvL.nil))).evs) (stable_nil) ?_
    rintro _ _ rfl
    simp only [zS0, zS1, zTn, Nat.reduceAdd, Nat.reduceMul, Int.reduceToNat, zG0, zG1, zG2, zCa, zCi, zCb, zCs, zCf, zCn, zCt, zCm, zCp]
    refine HL_nil ?_
    try simp only [thenK, blockK, reduceIte]
    refine kn _ _ ?_
    refine' Lv_none rfl ?post ?le
    case post => exact ⟨[], List.Perm.refl _, List.Pairwise.nil, (show own 172 3 (.slice A 0 c) 0 [] :: R = own 172 3 (.slice A 0 c) 0 (([] : List Turn).flatMap tc) :: R from rfl)⟩
    case le => (first | with_reducible exact Le.refl | (refine Le.of ?_; (repeat (first | with_reducible exact Sp.refl | with_reducible exact Sp.nil | (apply Sp.pick; focus ((repeat (first | with_reducible exact Rm.head | with_reducible apply Rm.tail)); done)) | with_reducible refine Sp.drop ?_))))
  · obtain ⟨g, rfl⟩ := hA h0
    rw [rowF_list ts]
    obtain ⟨f, hf⟩ : ∃ f : Nat → Turn, f = fun k => ts.getD k default := ⟨_, rfl⟩
    rw [← hf]
    obtain ⟨n, hn'⟩ : ∃ n, ts.length = n := ⟨_, rfl⟩
    rw [hn'] at hn h0 ⊢
    have hts : (List.range n).map f = ts := by rw [hf, ← hn']; exact map_getD ts
    refine CH_of Try.func109 rfl fun K kn kr kp => ?_
    simp only [Try.ntmps109, List.size_toArray, List.length_cons, List.length_nil, Nat.reduceAdd, Nat.reduceSub, Array.replicate_succ, Array.replicate_zero, List.push_toArray, List.append_toArray, List.nil_append, List.cons_append]
    refine HC_region ?_
    refine' HL_q rfl rfl (QV_move (Ev.tmp rfl)) ?_
    simp only [zS0, zS1, zTn, Nat.reduceAdd, Nat.reduceMul, Int.reduceToNat, zG0, zG1, zG2, zCa, zCi, zCb, zCs, zCf, zCn, zCt, zCm, zCp]
    refine' HL_q rfl rfl (QV_move (Ev.tmp rfl)) ?_
    simp only [zS0, zS1, zTn, Nat.reduceAdd, Nat.reduceMul, Int.reduceToNat, zG0, zG1, zG2, zCa, zCi, zCb, zCs, zCf, zCn, zCt, zCm, zCp]
    refine' HL_q rfl rfl (QV_len (Ev.tmp rfl) Try.underlying183) ?_
    simp only [zS0, zS1, zTn, Nat.reduceAdd, Nat.reduceMul, Int.reduceToNat, zG0, zG1, zG2, zCa, zCi, zCb, zCs, zCf, zCn, zCt, zCm, zCp]
    refine' HL_q rfl rfl (QV_move (Ev.tmp rfl)) ?_
    simp only [zS0, zS1, zTn, Nat.reduceAdd, Nat.reduceMul, Int.reduceToNat, zG0, zG1, zG2, zCa, zCi, zCb, zCs, zCf, zCn, zCt, zCm, zCp]
    -- operation 4
    refine' HL_call rfl en112 (call_fn (EvL.cons (Ev.tmp rfl) (EvL.cons (Ev.tmp rfl) (EvL.cons (Ev.tmp rfl) EvL.nil))).evs) ((stable_calls hn)) ?_
    rintro _ _ ⟨f', rfl, z1, z2⟩
    simp only [zS0, zS1, zTn, Nat.reduceAdd, Nat.reduceMul, Int.reduceToNat, zG0, zG1, zG2, zCa, zCi, zCb, zCs, zCf, zCn, zCt, zCm, zCp]
    refine HL_nil ?_
    unfold PmF at z2
    rw [hts] at z2
    have z3 : Srt ((List.range n).map f') := by
      unfold Srt
      rw [List.pairwise_iff_getElem]
      intro i j hi hj hij
      simp only [List.getElem_map, List.getElem_range]
      exact z1 i j (Nat.zero_le _) hij (by simpa using hj)
    rw [rowF_map (enc := tc) n f']
    try simp only [thenK, blockK, reduceIte]
    refine kn _ _ ?_
    refine' Lv_none rfl ?post ?le
    case post => exact ⟨(List.range n).map f', z2, z3, rfl⟩
    case le => (first | with_reducible exact Le.refl | (refine Le.of ?_; (repeat (first | with_reducible exact Sp.refl | with_reducible exact Sp.nil | (apply Sp.pick; focus ((repeat (first | with_reducible exact Rm.head | with_reducible apply Rm.tail)); done)) | with_reducible refine Sp.drop ?_))))
end Go.Proofs.Ytcilfoicoambhaa
