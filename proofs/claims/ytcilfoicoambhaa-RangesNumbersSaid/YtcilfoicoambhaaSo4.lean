import Derived.Test.YtcilfoicoambhaaSo3
set_option linter.unusedVariables false
set_option linter.unusedSimpArgs false
set_option maxRecDepth 20000
set_option maxHeartbeats 2000000
namespace Go.Proofs.Ytcilfoicoambhaa
open Go Go.Hw Go.RowKit

variable {w0 : World} {R : List Asn}

theorem half_eq (i j : Nat) : ((i : Int) + (j : Int)).fdiv (2 ^ (min (1 : Int).toNat IntKind.u64.bits)) = (((i + j) / 2 : Nat) : Int) := by
  rw [show (2 : Int) ^ (min (1 : Int).toNat IntKind.u64.bits) = 2 from rfl, Int.fdiv_eq_ediv_of_nonneg _ (by omega)]
  omega

/-- One element ahead of a sorted run. -/
theorem symMerge_one {g c n a m b : Nat} {f : Nat → Turn} (ham : m = a + 1) (hmb : m < b) (hb : b ≤ n) (hn : n ≤ 1000000) (h2 : SrtF tkey m b f) :
    CH Try.prog w0 114 #[.slice (some ⟨g, 0, none⟩) n c, .int .i64 a, .int .i64 m, .int .i64 b, .func (.func 110) #[] #[]] (own 172 3 (.slice (some ⟨g, 0, none⟩) n c) n (rowF tc n f) :: R) fun v R' =>
      ∃ f', R' = own 172 3 (.slice (some ⟨g, 0, none⟩) n c) n (rowF tc n f') :: R ∧ InF a b f f' ∧ SrtF tkey a b f' ∧ PmF n f f' := by
  have hsl := tsl (w0 := w0) (g := g) (c := c) (n := n) (f := f)
  have ga := tget (f := f) (show a < n by omega)
  refine CH_of Try.func114 rfl fun K kn kr kp => ?_
  simp only [Try.ntmps114, List.size_toArray, List.length_cons, List.length_nil, Nat.reduceAdd, Nat.reduceSub, Array.replicate_succ, Array.replicate_zero, List.push_toArray, List.append_toArray, List.nil_append, List.cons_append]
  refine HC_seq fun N1 hN1 => ?_
  refine HC_seq fun N2 hN2 => ?_
  refine HC_region ?_
  refine' HL_q rfl rfl (QV_move (Ev.tmp rfl)) ?_
  simp only [zS0, zS1, zTn, Nat.reduceAdd, Nat.reduceMul, Int.reduceToNat, zG0, zG1, zG2, zCa, zCi, zCb, zCs, zCf, zCn, zCt, zCm, zCp]
  refine' HL_q rfl rfl (QV_move (Ev.tmp rfl)) ?_
  simp only [zS0, zS1, zTn, Nat.reduceAdd, Nat.reduceMul, Int.reduceToNat, zG0, zG1, zG2, zCa, zCi, zCb, zCs, zCf, zCn, zCt, zCm, zCp]
  refine' HL_q rfl rfl (QV_sub (Ev.tmp rfl) (Ev.tmp rfl) ?hr) ?_
  case hr => first | exact IntWalk.i64_in _ (by omega) | exact IntWalk.u64_in _ (by omega) | exact IntWalk.u8_in _ (by omega) | exact IntWalk.u32_in _ (by omega) | exact IntWalk.i64_quo _ _ (by omega) | exact IntWalk.u64_quo _ _ (by omega) | rfl
  simp only [zS0, zS1, zTn, Nat.reduceAdd, Nat.reduceMul, Int.reduceToNat, zG0, zG1, zG2, zCa, zCi, zCb, zCs, zCf, zCn, zCt, zCm, zCp]
  first
    | (refine' HL_q rfl rfl (QV_eql_y (Ev.tmp rfl) Ev.const ?hb) ?_; case hb => omega)
    | (refine' HL_q rfl rfl (QV_eql_n (Ev.tmp rfl) Ev.const ?hb) ?_; case hb => omega)
    | (refine' HL_q rfl rfl (QV_eql (Ev.tmp rfl) Ev.const) ?_)
  simp only [zS0, zS1, zTn, Nat.reduceAdd, Nat.reduceMul, Int.reduceToNat, zG0, zG1, zG2, zCa, zCi, zCb, zCs, zCf, zCn, zCt, zCm, zCp]
  refine HL_nil ?_
  refine hN2 _ _ ?_
  try clear hN2 N2
  refine HC_true rfl ?_
  refine HC_seq fun N3 hN3 => ?_
  refine HC_region ?_
  refine' HL_q rfl rfl (QV_move (Ev.tmp rfl)) ?_
  simp only [zS0, zS1, zTn, Nat.reduceAdd, Nat.reduceMul, Int.reduceToNat, zG0, zG1, zG2, zCa, zCi, zCb, zCs, zCf, zCn, zCt, zCm, zCp]
  refine' HL_q rfl rfl (QV_assign (Ev.tmp rfl)) ?_
  simp only [zS0, zS1, zTn, Nat.reduceAdd, Nat.reduceMul, Int.reduceToNat, zG0, zG1, zG2, zCa, zCi, zCb, zCs, zCf, zCn, zCt, zCm, zCp]
  refine HL_nil ?_
  refine hN3 _ _ ?_
  try clear hN3 N3
  refine HC_seq fun N4 hN4 => ?_
  refine HC_region ?_
  refine' HL_q rfl rfl (QV_move (Ev.tmp rfl)) ?_
  simp only [zS0, zS1, zTn, Nat.reduceAdd, Nat.reduceMul, Int.reduceToNat, zG0, zG1, zG2, zCa, zCi, zCb, zCs, zCf, zCn, zCt, zCm, zCp]
  refine' HL_q rfl rfl (QV_assign (Ev.tmp rfl)) ?_
  simp only [zS0, zS1, zTn, Nat.reduceAdd, Nat.reduceMul, Int.reduceToNat, zG0, zG1, zG2, zCa, zCi, zCb, zCs, zCf, zCn, zCt, zCm, zCp]
  refine HL_nil ?_
  refine hN4 _ _ ?_
  try clear hN4 N4
  refine HC_seq fun N5 hN5 => ?_
  refine HC_block ?_
  refine HC_loop [10, 11] [false, false, false, false, false, false, false, false, false, false, false, false, true, false, false, false, false, false, false, false, false, false, false, false, false, false, false, false, false, false, false, true, true, true, true, true, true, true, true, true, true, true, true, true, true, true, true, true, true, true, true, true, true, true] (fun gh vs RR => ∃ (i : Nat) (j : Nat), vs = [(.int .i64 i), (.int .i64 j)] ∧ gh = j - i ∧ m ≤ i ∧ i ≤ j ∧ j ≤ b ∧ (∀ k, m ≤ k → k < i → tkey (f k) < tkey (f a)) ∧ (∀ k, j ≤ k → k < b → tkey (f a) ≤ tkey (f k)) ∧ RR = own 172 3 (.slice (some ⟨g, 0, none⟩) n c) n (rowF tc n f) :: R) ?start ?round
  case start =>
    simp only [List.map_cons, List.map_nil, List.getD_cons_zero, List.getD_cons_succ]
    refine' ⟨_, _, ?le, m, b, rfl, rfl, (Nat.le_refl _), (by omega), (Nat.le_refl _), (fun k h1 h2 => by omega), (fun k h1 h2 => by omega), rfl⟩
    case le => (first | with_reducible exact Le.refl | (refine Le.of ?_; (repeat (first | with_reducible exact Sp.refl | with_reducible exact Sp.nil | (apply Sp.pick; focus ((repeat (first | with_reducible exact Rm.head | with_reducible apply Rm.tail)); done)) | with_reducible refine Sp.drop ?_))))
  case round =>
    rintro _ _ _ u ⟨i, j, rfl, rfl, hi1, hij, hj1, hlo, hhi, rfl⟩ NL2 hL2
    simp only [setL, fill, List.set_cons_zero, List.set_cons_succ, Nat.reduceAdd]
    refine HC_seq fun N6 hN6 => ?_
    refine HC_seq fun N7 hN7 => ?_
    refine HC_region ?_
    refine' HL_q rfl rfl (QV_move (Ev.tmp rfl)) ?_
    simp only [zS0, zS1, zTn, Nat.reduceAdd, Nat.reduceMul, Int.reduceToNat, zG0, zG1, zG2, zCa, zCi, zCb, zCs, zCf, zCn, zCt, zCm, zCp]
    refine' HL_q rfl rfl (QV_move (Ev.tmp rfl)) ?_
    simp only [zS0, zS1, zTn, Nat.reduceAdd, Nat.reduceMul, Int.reduceToNat, zG0, zG1, zG2, zCa, zCi, zCb, zCs, zCf, zCn, zCt, zCm, zCp]
    first
      | (refine' HL_q rfl rfl (QV_lss_y (Ev.tmp rfl) (Ev.tmp rfl) ?hb) ?_; case hb => omega)
      | (refine' HL_q rfl rfl (QV_lss_n (Ev.tmp rfl) (Ev.tmp rfl) ?hb) ?_; case hb => omega)
      | (refine' HL_q rfl rfl (QV_lss (Ev.tmp rfl) (Ev.tmp rfl)) ?_)
    simp only [zS0, zS1, zTn, Nat.reduceAdd, Nat.reduceMul, Int.reduceToNat, zG0, zG1, zG2, zCa, zCi, zCb, zCs, zCf, zCn, zCt, zCm, zCp]
    refine HL_nil ?_
    refine hN7 _ _ ?_
    try clear hN7 N7
    refine HC_cond rfl (fun hc => ?_) (fun hc => ?_)
    · refine HC_skip ?_
      refine hN6 _ _ ?_
      try clear hN6 N6
      have hc' : i < j := by simpa using hc
      have gh := tget (f := f) (show (i + j) / 2 < n by omega)
      refine HC_block ?_
      refine HC_seq fun N8 hN8 => ?_
      refine HC_region ?_
      refine' HL_q rfl rfl (QV_move (Ev.tmp rfl)) ?_
      simp only [zS0, zS1, zTn, Nat.reduceAdd, Nat.reduceMul, Int.reduceToNat, zG0, zG1, zG2, zCa, zCi, zCb, zCs, zCf, zCn, zCt, zCm, zCp, cmpT_lt]
      refine' HL_q rfl rfl (QV_move (Ev.tmp rfl)) ?_
      simp only [zS0, zS1, zTn, Nat.reduceAdd, Nat.reduceMul, Int.reduceToNat, zG0, zG1, zG2, zCa, zCi, zCb, zCs, zCf, zCn, zCt, zCm, zCp, cmpT_lt]
      refine' HL_q rfl rfl (QV_add (Ev.tmp rfl) (Ev.tmp rfl) ?hr) ?_
      case hr => first | exact IntWalk.i64_in _ (by omega) | exact IntWalk.u64_in _ (by omega) | exact IntWalk.u8_in _ (by omega) | exact IntWalk.u32_in _ (by omega) | exact IntWalk.i64_quo _ _ (by omega) | exact IntWalk.u64_quo _ _ (by omega) | rfl
      simp only [zS0, zS1, zTn, Nat.reduceAdd, Nat.reduceMul, Int.reduceToNat, zG0, zG1, zG2, zCa, zCi, zCb, zCs, zCf, zCn, zCt, zCm, zCp, cmpT_lt]
      refine' HL_q rfl rfl (QV_cvt Try.underlying3 Try.underlying179 rfl (Ev.tmp rfl) ?hr) ?_
      case hr => first | exact IntWalk.i64_in _ (by omega) | exact IntWalk.u64_in _ (by omega) | exact IntWalk.u8_in _ (by omega) | exact IntWalk.u32_in _ (by omega) | exact IntWalk.i64_quo _ _ (by omega) | exact IntWalk.u64_quo _ _ (by omega) | rfl
      simp only [zS0, zS1, zTn, Nat.reduceAdd, Nat.reduceMul, Int.reduceToNat, zG0, zG1, zG2, zCa, zCi, zCb, zCs, zCf, zCn, zCt, zCm, zCp, cmpT_lt]
      -- operation 4
      refine' HL_q rfl rfl (QV_shr (Ev.tmp rfl) Ev.const ?h0 ?hr) ?_
      case h0 => omega
      case hr => exact half_eq i j
      simp only [zS0, zS1, zTn, Nat.reduceAdd, Nat.reduceMul, Int.reduceToNat, zG0, zG1, zG2, zCa, zCi, zCb, zCs, zCf, zCn, zCt, zCm, zCp, cmpT_lt]
      refine' HL_q rfl rfl (QV_cvt Try.underlying179 Try.underlying3 rfl (Ev.tmp rfl) ?hr) ?_
      case hr => first | exact IntWalk.i64_in _ (by omega) | exact IntWalk.u64_in _ (by omega) | exact IntWalk.u8_in _ (by omega) | exact IntWalk.u32_in _ (by omega) | exact IntWalk.i64_quo _ _ (by omega) | exact IntWalk.u64_quo _ _ (by omega) | rfl
      simp only [zS0, zS1, zTn, Nat.reduceAdd, Nat.reduceMul, Int.reduceToNat, zG0, zG1, zG2, zCa, zCi, zCb, zCs, zCf, zCn, zCt, zCm, zCp, cmpT_lt]
      refine' HL_q rfl rfl (QV_assign (Ev.tmp rfl)) ?_
      simp only [zS0, zS1, zTn, Nat.reduceAdd, Nat.reduceMul, Int.reduceToNat, zG0, zG1, zG2, zCa, zCi, zCb, zCs, zCf, zCn, zCt, zCm, zCp, cmpT_lt]
      refine HL_nil ?_
      refine hN8 _ _ ?_
      try clear hN8 N8
      refine HC_seq fun N9 hN9 => ?_
      refine HC_draw 11 [] _ mixed rfl ?_
      refine' DA_take (i := 0) rfl (by kernel_rfl) (fun _ _ _ _ h => (kp _ _ _ h).elim) rfl (QV_move (Ev.tmp rfl)) ?_
      simp only [zS0, zS1, zTn, Nat.reduceAdd, Nat.reduceMul, Int.reduceToNat, zG0, zG1, zG2, zCa, zCi, zCb, zCs, zCf, zCn, zCt, zCm, zCp, cmpT_lt]
      refine' DA_take (i := 1) rfl (by kernel_rfl) (fun _ _ _ _ h => (kp _ _ _ h).elim) rfl (QV_move (Ev.tmp rfl)) ?_
      simp only [zS0, zS1, zTn, Nat.reduceAdd, Nat.reduceMul, Int.reduceToNat, zG0, zG1, zG2, zCa, zCi, zCb, zCs, zCf, zCn, zCt, zCm, zCp, cmpT_lt]
      refine' DA_take (i := 2) rfl (by kernel_rfl) (fun _ _ _ _ h => (kp _ _ _ h).elim) rfl (QV_move (Ev.tmp rfl)) ?_
      simp only [zS0, zS1, zTn, Nat.reduceAdd, Nat.reduceMul, Int.reduceToNat, zG0, zG1, zG2, zCa, zCi, zCb, zCs, zCf, zCn, zCt, zCm, zCp, cmpT_lt]
      refine' DA_take (i := 3) rfl (by kernel_rfl) (fun _ _ _ _ h => (kp _ _ _ h).elim) rfl (QV_index (Ev.tmp rfl) (Ev.tmp rfl) (indexAt_slice Try.underlying183 Try.sizeOf172 ?h0 ?h1)) ?_
      case h0 => omega
      case h1 => omega
      simp only [zS0, zS1, zTn, Nat.reduceAdd, Nat.reduceMul, Int.reduceToNat, zG0, zG1, zG2, zCa, zCi, zCb, zCs, zCf, zCn, zCt, zCm, zCp, cmpT_lt]
      first
        | (refine' DA_take (i := 4) rfl (by kernel_rfl) (fun _ _ _ _ h => (kp _ _ _ h).elim) rfl (QV_loadA (Ev.tmp rfl) Try.isAgg172 Try.sizeOf172 ?hm ?hv ?hn) ?_; (case hm => (repeat (first | exact List.Mem.head _ | assumption | apply List.Mem.tail))); (case hv => (simp only [List.toList_toArray, List.take_succ_cons, List.take_zero, List.drop_succ_cons, List.drop_zero, List.take_nil]; rfl)); (case hn => rfl))
        | (refine' DA_take (i := 4) rfl (by kernel_rfl) (fun _ _ _ _ h => (kp _ _ _ h).elim) rfl (QV_loadRA (Ev.tmp rfl) ?hp Try.isAgg172 Try.sizeOf172 ?hs ?hv ?hn) ?_; (case hs => (first | assumption | (refine' Sl.sub (by assumption) ?_; (repeat (first | with_reducible exact List.Sublist.refl _ | with_reducible exact List.nil_sublist _ | with_reducible apply List.Sublist.cons_cons | with_reducible apply List.Sublist.cons))))); (case hp => rfl); (case hv => (first | (exact gh) | (exact ga) | fail)); (case hn => rfl))
        | (refine' DA_take (i := 4) rfl (by kernel_rfl) (fun _ _ _ _ h => (kp _ _ _ h).elim) rfl (QV_loadRA (Ev.tmp rfl) ?hp Try.isAgg172 Try.sizeOf172 ?hs ?hv ?hn) ?_; (case hs => (first | assumption | (refine' Sl.sub (by assumption) ?_; (repeat (first | with_reducible exact List.Sublist.refl _ | with_reducible exact List.nil_sublist _ | with_reducible apply List.Sublist.cons_cons | with_reducible apply List.Sublist.cons))))); (case hv => (first | (exact gh) | (exact ga) | rfl)); (case hp => (first | rfl | omega)); (case hn => rfl))
      simp only [zS0, zS1, zTn, Nat.reduceAdd, Nat.reduceMul, Int.reduceToNat, zG0, zG1, zG2, zCa, zCi, zCb, zCs, zCf, zCn, zCt, zCm, zCp, cmpT_lt]
      refine' DA_take (i := 5) rfl (by kernel_rfl) (fun _ _ _ _ h => (kp _ _ _ h).elim) rfl (QV_move (Ev.tmp rfl)) ?_
      simp only [zS0, zS1, zTn, Nat.reduceAdd, Nat.reduceMul, Int.reduceToNat, zG0, zG1, zG2, zCa, zCi, zCb, zCs, zCf, zCn, zCt, zCm, zCp, cmpT_lt]
      refine' DA_take (i := 6) rfl (by kernel_rfl) (fun _ _ _ _ h => (kp _ _ _ h).elim) rfl (QV_move (Ev.tmp rfl)) ?_
      simp only [zS0, zS1, zTn, Nat.reduceAdd, Nat.reduceMul, Int.reduceToNat, zG0, zG1, zG2, zCa, zCi, zCb, zCs, zCf, zCn, zCt, zCm, zCp, cmpT_lt]
      refine' DA_take (i := 7) rfl (by kernel_rfl) (fun _ _ _ _ h => (kp _ _ _ h).elim) rfl (QV_index (Ev.tmp rfl) (Ev.tmp rfl) (indexAt_slice Try.underlying183 Try.sizeOf172 ?h0 ?h1)) ?_
      case h0 => omega
      case h1 => omega
      simp only [zS0, zS1, zTn, Nat.reduceAdd, Nat.reduceMul, Int.reduceToNat, zG0, zG1, zG2, zCa, zCi, zCb, zCs, zCf, zCn, zCt, zCm, zCp, cmpT_lt]
      first
        | (refine' DA_take (i := 8) rfl (by kernel_rfl) (fun _ _ _ _ h => (kp _ _ _ h).elim) rfl (QV_loadA (Ev.tmp rfl) Try.isAgg172 Try.sizeOf172 ?hm ?hv ?hn) ?_; (case hm => (repeat (first | exact List.Mem.head _ | assumption | apply List.Mem.tail))); (case hv => (simp only [List.toList_toArray, List.take_succ_cons, List.take_zero, List.drop_succ_cons, List.drop_zero, List.take_nil]; rfl)); (case hn => rfl))
        | (refine' DA_take (i := 8) rfl (by kernel_rfl) (fun _ _ _ _ h => (kp _ _ _ h).elim) rfl (QV_loadRA (Ev.tmp rfl) ?hp Try.isAgg172 Try.sizeOf172 ?hs ?hv ?hn) ?_; (case hs => (first | assumption | (refine' Sl.sub (by assumption) ?_; (repeat (first | with_reducible exact List.Sublist.refl _ | with_reducible exact List.nil_sublist _ | with_reducible apply List.Sublist.cons_cons | with_reducible apply List.Sublist.cons))))); (case hp => rfl); (case hv => (first | (exact gh) | (exact ga) | fail)); (case hn => rfl))
        | (refine' DA_take (i := 8) rfl (by kernel_rfl) (fun _ _ _ _ h => (kp _ _ _ h).elim) rfl (QV_loadRA (Ev.tmp rfl) ?hp Try.isAgg172 Try.sizeOf172 ?hs ?hv ?hn) ?_; (case hs => (first | assumption | (refine' Sl.sub (by assumption) ?_; (repeat (first | with_reducible exact List.Sublist.refl _ | with_reducible exact List.nil_sublist _ | with_reducible apply List.Sublist.cons_cons | with_reducible apply List.Sublist.cons))))); (case hv => (first | (exact gh) | (exact ga) | rfl)); (case hp => (first | rfl | omega)); (case hn => rfl))
      simp only [zS0, zS1, zTn, Nat.reduceAdd, Nat.reduceMul, Int.reduceToNat, zG0, zG1, zG2, zCa, zCi, zCb, zCs, zCf, zCn, zCt, zCm, zCp, cmpT_lt]
      refine DA_one (i := 9) (by kernel_rfl) ?_
      refine' DB_call (i := 9) rfl rfl en110 (call_val (Ev.tmp rfl) (EvL.cons (Ev.tmp rfl) (EvL.cons (Ev.tmp rfl) EvL.nil)).evs) ((cmp_calls)) ?_
      rintro _ _ ⟨rfl, rfl⟩
      refine ⟨_, rfl, ?_⟩
      simp only [zS0, zS1, zTn, Nat.reduceAdd, Nat.reduceMul, Int.reduceToNat, zG0, zG1, zG2, zCa, zCi, zCb, zCs, zCf, zCn, zCt, zCm, zCp, cmpT_lt]
      first
        | (refine' DA_take (i := 10) rfl (by kernel_rfl) (fun _ _ _ _ h => (kp _ _ _ h).elim) rfl (QV_lss_y (Ev.tmp rfl) Ev.const ?hb) ?_; case hb => omega)
        | (refine' DA_take (i := 10) rfl (by kernel_rfl) (fun _ _ _ _ h => (kp _ _ _ h).elim) rfl (QV_lss_n (Ev.tmp rfl) Ev.const ?hb) ?_; case hb => omega)
        | (refine' DA_take (i := 10) rfl (by kernel_rfl) (fun _ _ _ _ h => (kp _ _ _ h).elim) rfl (QV_lss (Ev.tmp rfl) Ev.const) ?_)
      simp only [zS0, zS1, zTn, Nat.reduceAdd, Nat.reduceMul, Int.reduceToNat, zG0, zG1, zG2, zCa, zCi, zCb, zCs, zCf, zCn, zCt, zCm, zCp, cmpT_lt]
      refine DA_done (by kernel_rfl) ?_
      try simp only [List.nil_append, List.cons_append]
      refine hN9 _ _ ?_
      try clear hN9 N9
      refine HC_cond rfl (fun hk => ?_) (fun hk => ?_)
      · have hk' : tkey (f ((i + j) / 2)) < tkey (f a) := by simpa using hk
        refine HC_region ?_
        refine' HL_q rfl rfl (QV_move (Ev.tmp rfl)) ?_
        simp only [zS0, zS1, zTn, Nat.reduceAdd, Nat.reduceMul, Int.reduceToNat, zG0, zG1, zG2, zCa, zCi, zCb, zCs, zCf, zCn, zCt, zCm, zCp, cmpT_lt]
        refine' HL_q rfl rfl (QV_add (Ev.tmp rfl) Ev.const ?hr) ?_
        case hr => first | exact IntWalk.i64_in _ (by omega) | exact IntWalk.u64_in _ (by omega) | exact IntWalk.u8_in _ (by omega) | exact IntWalk.u32_in _ (by omega) | exact IntWalk.i64_quo _ _ (by omega) | exact IntWalk.u64_quo _ _ (by omega) | rfl
        simp only [zS0, zS1, zTn, Nat.reduceAdd, Nat.reduceMul, Int.reduceToNat, zG0, zG1, zG2, zCa, zCi, zCb, zCs, zCf, zCn, zCt, zCm, zCp, cmpT_lt]
        refine' HL_q rfl rfl (QV_assign (Ev.tmp rfl)) ?_
        simp only [zS0, zS1, zTn, Nat.reduceAdd, Nat.reduceMul, Int.reduceToNat, zG0, zG1, zG2, zCa, zCi, zCb, zCs, zCf, zCn, zCt, zCm, zCp, cmpT_lt]
        refine HL_nil ?_
        try simp only [blockK]
        simp only [thenK]
        refine' againL hL2 (Gets.cons rfl (Gets.cons rfl Gets.nil)) ?lt ?ag1 ?le ⟨(i + j) / 2 + 1, j, rfl, rfl, by omega, by omega, hj1, ?lo, hhi, rfl⟩
        case ag1 => (simp only [setL, List.set_cons_zero, List.set_cons_succ]; exact (Ag.keep (Ag.keep (Ag.keep (Ag.keep (Ag.keep (Ag.keep (Ag.keep (Ag.keep (Ag.keep (Ag.keep (Ag.keep (Ag.keep (Ag.any (Ag.keep (Ag.keep (Ag.keep (Ag.keep (Ag.keep (Ag.keep (Ag.keep (Ag.keep (Ag.keep (Ag.keep (Ag.keep (Ag.keep (Ag.keep (Ag.keep (Ag.keep (Ag.keep (Ag.keep (Ag.keep (Ag.any (Ag.any (Ag.any (Ag.any (Ag.any (Ag.any (Ag.any (Ag.any (Ag.any (Ag.any (Ag.any (Ag.any (Ag.any (Ag.any (Ag.any (Ag.any (Ag.any (Ag.any (Ag.any (Ag.any (Ag.any (Ag.any (Ag.any Ag.nil)))))))))))))))))))))))))))))))))))))))))))))))))))))))
        case le => (first | with_reducible exact Le.refl | (refine Le.of ?_; (repeat (first | with_reducible exact Sp.refl | with_reducible exact Sp.nil | (apply Sp.pick; focus ((repeat (first | with_reducible exact Rm.head | with_reducible apply Rm.tail)); done)) | with_reducible refine Sp.drop ?_))))
        case lt => omega
        case lo =>
          intro k h1 h3
          rcases Nat.eq_or_lt_of_le (show k ≤ (i + j) / 2 by omega) with h4 | h4
          · rw [h4]; exact hk'
          · exact Nat.lt_of_le_of_lt (h2 k _ h1 h4 (by omega)) hk'
      · have hk' : tkey (f a) ≤ tkey (f ((i + j) / 2)) := by simpa using hk
        refine HC_region ?_
        refine' HL_q rfl rfl (QV_move (Ev.tmp rfl)) ?_
        simp only [zS0, zS1, zTn, Nat.reduceAdd, Nat.reduceMul, Int.reduceToNat, zG0, zG1, zG2, zCa, zCi, zCb, zCs, zCf, zCn, zCt, zCm, zCp, cmpT_lt]
        refine' HL_q rfl rfl (QV_assign (Ev.tmp rfl)) ?_
        simp only [zS0, zS1, zTn, Nat.reduceAdd, Nat.reduceMul, Int.reduceToNat, zG0, zG1, zG2, zCa, zCi, zCb, zCs, zCf, zCn, zCt, zCm, zCp, cmpT_lt]
        refine HL_nil ?_
        try simp only [blockK]
        simp only [thenK]
        refine' againL hL2 (Gets.cons rfl (Gets.cons rfl Gets.nil)) ?lt ?ag2 ?le ⟨i, (i + j) / 2, rfl, rfl, hi1, by omega, by omega, hlo, ?hi, rfl⟩
        case ag2 => (simp only [setL, List.set_cons_zero, List.set_cons_succ]; exact (Ag.keep (Ag.keep (Ag.keep (Ag.keep (Ag.keep (Ag.keep (Ag.keep (Ag.keep (Ag.keep (Ag.keep (Ag.keep (Ag.keep (Ag.any (Ag.keep (Ag.keep (Ag.keep (Ag.keep (Ag.keep (Ag.keep (Ag.keep (Ag.keep (Ag.keep (Ag.keep (Ag.keep (Ag.keep (Ag.keep (Ag.keep (Ag.keep (Ag.keep (Ag.keep (Ag.keep (Ag.any (Ag.any (Ag.any (Ag.any (Ag.any (Ag.any (Ag.any (Ag.any (Ag.any (Ag.any (Ag.any (Ag.any (Ag.any (Ag.any (Ag.any (Ag.any (Ag.any (Ag.any (Ag.any (Ag.any (Ag.any (Ag.any (Ag.any Ag.nil)))))))))))))))))))))))))))))))))))))))))))))))))))))))
        case le => (first | with_reducible exact Le.refl | (refine Le.of ?_; (repeat (first | with_reducible exact Sp.refl | with_reducible exact Sp.nil | (apply Sp.pick; focus ((repeat (first | with_reducible exact Rm.head | with_reducible apply Rm.tail)); done)) | with_reducible refine Sp.drop ?_))))
        case lt => omega
        case hi =>
          intro k h1 h3
          rcases Nat.eq_or_lt_of_le h1 with h4 | h4
          · rw [← h4]; exact hk'
          · exact Nat.le_trans hk' (h2 _ k (by omega) h4 h3)
    · refine HC_exit ?_
      simp only [thenK, blockK, reduceIte]
      have hc' : i = j := by simp at hc; omega
      subst hc'
      refine hN5 _ _ ?_
      try clear hN5 N5
      refine HC_seq fun N10 hN10 => ?_
      refine HC_seq fun N11 hN11 => ?_
      refine HC_region ?_
      refine' HL_q rfl rfl (QV_move (Ev.tmp rfl)) ?_
      simp only [zS0, zS1, zTn, Nat.reduceAdd, Nat.reduceMul, Int.reduceToNat, zG0, zG1, zG2, zCa, zCi, zCb, zCs, zCf, zCn, zCt, zCm, zCp, cmpT_lt]
      refine' HL_q rfl rfl (QV_assign (Ev.tmp rfl)) ?_
      simp only [zS0, zS1, zTn, Nat.reduceAdd, Nat.reduceMul, Int.reduceToNat, zG0, zG1, zG2, zCa, zCi, zCb, zCs, zCf, zCn, zCt, zCm, zCp, cmpT_lt]
      refine HL_nil ?_
      refine hN11 _ _ ?_
      try clear hN11 N11
      have e1 : (i : Int) - 1 = ((i - 1 : Nat) : Int) := by omega
      refine HC_block ?_
      refine HC_loop [13] [false, false, false, false, false, false, false, false, false, false, false, false, false, false, false, false, false, false, false, false, false, false, false, false, false, false, false, false, false, false, false, false, false, false, false, false, false, false, false, false, false, false, false, false, false, false, false, false, false, false, false, false, false, false, false, true, true, true, true, true, true, true, true, true, true, true, true, true, true, true, true, true, true, true, true, true, true] (fun gh vs RR => ∃ (k : Nat), vs = [(.int .i64 k)] ∧ gh = n - k ∧ a ≤ k ∧ k ≤ i - 1 ∧ PmF n f (mvUp f a k) ∧ RR = own 172 3 (.slice (some ⟨g, 0, none⟩) n c) n (rowF tc n (mvUp f a k)) :: R) ?start ?round
      case start =>
        simp only [List.map_cons, List.map_nil, List.getD_cons_zero, List.getD_cons_succ]
        refine' ⟨_, _, ?le, a, rfl, rfl, (Nat.le_refl _), (by omega), (by rw [mvUp_self]; exact PmF.refl), (by rw [mvUp_self])⟩
        case le => (first | with_reducible exact Le.refl | (refine Le.of ?_; (repeat (first | with_reducible exact Sp.refl | with_reducible exact Sp.nil | (apply Sp.pick; focus ((repeat (first | with_reducible exact Rm.head | with_reducible apply Rm.tail)); done)) | with_reducible refine Sp.drop ?_))))
      case round =>
        rintro _ _ _ u ⟨k, rfl, rfl, hk1, hk2, hp, rfl⟩ NL8 hL8
        simp only [setL, fill, List.set_cons_zero, List.set_cons_succ, Nat.reduceAdd]
        refine HC_seq fun N12 hN12 => ?_
        refine HC_seq fun N13 hN13 => ?_
        refine HC_region ?_
        refine' HL_q rfl rfl (QV_move (Ev.tmp rfl)) ?_
        simp only [zS0, zS1, zTn, Nat.reduceAdd, Nat.reduceMul, Int.reduceToNat, zG0, zG1, zG2, zCa, zCi, zCb, zCs, zCf, zCn, zCt, zCm, zCp, e1]
        refine' HL_q rfl rfl (QV_move (Ev.tmp rfl)) ?_
        simp only [zS0, zS1, zTn, Nat.reduceAdd, Nat.reduceMul, Int.reduceToNat, zG0, zG1, zG2, zCa, zCi, zCb, zCs, zCf, zCn, zCt, zCm, zCp, e1]
        refine' HL_q rfl rfl (QV_sub (Ev.tmp rfl) Ev.const ?hr) ?_
        case hr => first | exact IntWalk.i64_in _ (by omega) | exact IntWalk.u64_in _ (by omega) | exact IntWalk.u8_in _ (by omega) | exact IntWalk.u32_in _ (by omega) | exact IntWalk.i64_quo _ _ (by omega) | exact IntWalk.u64_quo _ _ (by omega) | rfl
        simp only [zS0, zS1, zTn, Nat.reduceAdd, Nat.reduceMul, Int.reduceToNat, zG0, zG1, zG2, zCa, zCi, zCb, zCs, zCf, zCn, zCt, zCm, zCp, e1]
        first
          | (refine' HL_q rfl rfl (QV_lss_y (Ev.tmp rfl) (Ev.tmp rfl) ?hb) ?_; case hb => omega)
          | (refine' HL_q rfl rfl (QV_lss_n (Ev.tmp rfl) (Ev.tmp rfl) ?hb) ?_; case hb => omega)
          | (refine' HL_q rfl rfl (QV_lss (Ev.tmp rfl) (Ev.tmp rfl)) ?_)
        simp only [zS0, zS1, zTn, Nat.reduceAdd, Nat.reduceMul, Int.reduceToNat, zG0, zG1, zG2, zCa, zCi, zCb, zCs, zCf, zCn, zCt, zCm, zCp, e1]
        refine HL_nil ?_
        refine hN13 _ _ ?_
        try clear hN13 N13
        refine HC_cond rfl (fun hc => ?_) (fun hc => ?_)
        · refine HC_skip ?_
          refine hN12 _ _ ?_
          try clear hN12 N12
          have hc' : k < i - 1 := by simp at hc; omega
          have hsl := tsl (w0 := w0) (g := g) (c := c) (n := n) (f := mvUp f a k)
          have g1 := tget (f := mvUp f a k) (show k < n by omega)
          have g2 := tget (f := mvUp f a k) (show k + 1 < n by omega)
          have e2 : (k : Int) + 1 = ((k + 1 : Nat) : Int) := by simp
          have hsw : upd (upd (mvUp f a k) k (mvUp f a k (k + 1))) (k + 1) (mvUp f a k k) = mvUp f a (k + 1) := by rw [swF_eq, mvUp_succ f hk1]
          have hp2 : PmF n f (mvUp f a (k + 1)) := by
            rw [← mvUp_succ f hk1]
            exact hp.trans (PmF_sw (by omega) (by omega))
          refine HC_seq fun N14 hN14 => ?_
          refine HC_block ?_
          refine HC_draw 15 [] _ mixed rfl ?_
          refine' DA_take (i := 0) rfl (by kernel_rfl) (fun _ _ _ _ h => (kp _ _ _ h).elim) rfl (QV_move (Ev.tmp rfl)) ?_
          simp only [zS0, zS1, zTn, Nat.reduceAdd, Nat.reduceMul, Int.reduceToNat, zG0, zG1, zG2, zCa, zCi, zCb, zCs, zCf, zCn, zCt, zCm, zCp, e1, e2]
          refine' DA_take (i := 1) rfl (by kernel_rfl) (fun _ _ _ _ h => (kp _ _ _ h).elim) rfl (QV_move (Ev.tmp rfl)) ?_
          simp only [zS0, zS1, zTn, Nat.reduceAdd, Nat.reduceMul, Int.reduceToNat, zG0, zG1, zG2, zCa, zCi, zCb, zCs, zCf, zCn, zCt, zCm, zCp, e1, e2]
          refine' DA_move (i := 2) rfl (by kernel_rfl) (fun _ _ _ _ h => (kp _ _ _ h).elim) rfl (Ev.tmp rfl) ?_
          simp only [zS0, zS1, zTn, Nat.reduceAdd, Nat.reduceMul, Int.reduceToNat, zG0, zG1, zG2, zCa, zCi, zCb, zCs, zCf, zCn, zCt, zCm, zCp, e1, e2]
          refine' DA_move (i := 3) rfl (by kernel_rfl) (fun _ _ _ _ h => (kp _ _ _ h).elim) rfl (Ev.tmp rfl) ?_
          simp only [zS0, zS1, zTn, Nat.reduceAdd, Nat.reduceMul, Int.reduceToNat, zG0, zG1, zG2, zCa, zCi, zCb, zCs, zCf, zCn, zCt, zCm, zCp, e1, e2]
          refine' DA_pure (i := 4) rfl (by kernel_rfl) (fun _ _ _ _ h => (kp _ _ _ h).elim) rfl (fun w1 => QV_add (Ev.tmp rfl) Ev.const ?hr) ?_
          case hr => first | exact IntWalk.i64_in _ (by omega) | exact IntWalk.u64_in _ (by omega) | exact IntWalk.u8_in _ (by omega) | exact IntWalk.u32_in _ (by omega) | exact IntWalk.i64_quo _ _ (by omega) | exact IntWalk.u64_quo _ _ (by omega) | rfl
          simp only [zS0, zS1, zTn, Nat.reduceAdd, Nat.reduceMul, Int.reduceToNat, zG0, zG1, zG2, zCa, zCi, zCb, zCs, zCf, zCn, zCt, zCm, zCp, e1, e2]
          refine' DA_take (i := 5) rfl (by kernel_rfl) (fun _ _ _ _ h => (kp _ _ _ h).elim) rfl (QV_move (Ev.tmp rfl)) ?_
          simp only [zS0, zS1, zTn, Nat.reduceAdd, Nat.reduceMul, Int.reduceToNat, zG0, zG1, zG2, zCa, zCi, zCb, zCs, zCf, zCn, zCt, zCm, zCp, e1, e2]
          refine' DA_take (i := 6) rfl (by kernel_rfl) (fun _ _ _ _ h => (kp _ _ _ h).elim) rfl (QV_move (Ev.tmp rfl)) ?_
          simp only [zS0, zS1, zTn, Nat.reduceAdd, Nat.reduceMul, Int.reduceToNat, zG0, zG1, zG2, zCa, zCi, zCb, zCs, zCf, zCn, zCt, zCm, zCp, e1, e2]
          refine' DA_take (i := 7) rfl (by kernel_rfl) (fun _ _ _ _ h => (kp _ _ _ h).elim) rfl (QV_add (Ev.tmp rfl) Ev.const ?hr) ?_
          case hr => first | exact IntWalk.i64_in _ (by omega) | exact IntWalk.u64_in _ (by omega) | exact IntWalk.u8_in _ (by omega) | exact IntWalk.u32_in _ (by omega) | exact IntWalk.i64_quo _ _ (by omega) | exact IntWalk.u64_quo _ _ (by omega) | rfl
          simp only [zS0, zS1, zTn, Nat.reduceAdd, Nat.reduceMul, Int.reduceToNat, zG0, zG1, zG2, zCa, zCi, zCb, zCs, zCf, zCn, zCt, zCm, zCp, e1, e2]
          refine' DA_take (i := 8) rfl (by kernel_rfl) (fun _ _ _ _ h => (kp _ _ _ h).elim) rfl (QV_index (Ev.tmp rfl) (Ev.tmp rfl) (indexAt_slice Try.underlying183 Try.sizeOf172 ?h0 ?h1)) ?_
          case h0 => omega
          case h1 => omega
          simp only [zS0, zS1, zTn, Nat.reduceAdd, Nat.reduceMul, Int.reduceToNat, zG0, zG1, zG2, zCa, zCi, zCb, zCs, zCf, zCn, zCt, zCm, zCp, e1, e2]
          first
            | (refine' DA_take (i := 9) rfl (by kernel_rfl) (fun _ _ _ _ h => (kp _ _ _ h).elim) rfl (QV_loadA (Ev.tmp rfl) Try.isAgg172 Try.sizeOf172 ?hm ?hv ?hn) ?_; (case hm => (repeat (first | exact List.Mem.head _ | assumption | apply List.Mem.tail))); (case hv => (simp only [List.toList_toArray, List.take_succ_cons, List.take_zero, List.drop_succ_cons, List.drop_zero, List.take_nil]; rfl)); (case hn => rfl))
            | (refine' DA_take (i := 9) rfl (by kernel_rfl) (fun _ _ _ _ h => (kp _ _ _ h).elim) rfl (QV_loadRA (Ev.tmp rfl) ?hp Try.isAgg172 Try.sizeOf172 ?hs ?hv ?hn) ?_; (case hs => (first | assumption | (refine' Sl.sub (by assumption) ?_; (repeat (first | with_reducible exact List.Sublist.refl _ | with_reducible exact List.nil_sublist _ | with_reducible apply List.Sublist.cons_cons | with_reducible apply List.Sublist.cons))))); (case hp => rfl); (case hv => (first | (exact g1) | (exact g2) | fail)); (case hn => rfl))
            | (refine' DA_take (i := 9) rfl (by kernel_rfl) (fun _ _ _ _ h => (kp _ _ _ h).elim) rfl (QV_loadRA (Ev.tmp rfl) ?hp Try.isAgg172 Try.sizeOf172 ?hs ?hv ?hn) ?_; (case hs => (first | assumption | (refine' Sl.sub (by assumption) ?_; (repeat (first | with_reducible exact List.Sublist.refl _ | with_reducible exact List.nil_sublist _ | with_reducible apply List.Sublist.cons_cons | with_reducible apply List.Sublist.cons))))); (case hv => (first | (exact g1) | (exact g2) | rfl)); (case hp => (first | rfl | omega)); (case hn => rfl))
          simp only [zS0, zS1, zTn, Nat.reduceAdd, Nat.reduceMul, Int.reduceToNat, zG0, zG1, zG2, zCa, zCi, zCb, zCs, zCf, zCn, zCt, zCm, zCp, e1, e2]
          refine' DA_take (i := 10) rfl (by kernel_rfl) (fun _ _ _ _ h => (kp _ _ _ h).elim) rfl (QV_move (Ev.tmp rfl)) ?_
          simp only [zS0, zS1, zTn, Nat.reduceAdd, Nat.reduceMul, Int.reduceToNat, zG0, zG1, zG2, zCa, zCi, zCb, zCs, zCf, zCn, zCt, zCm, zCp, e1, e2]
          refine' DA_take (i := 11) rfl (by kernel_rfl) (fun _ _ _ _ h => (kp _ _ _ h).elim) rfl (QV_move (Ev.tmp rfl)) ?_
          simp only [zS0, zS1, zTn, Nat.reduceAdd, Nat.reduceMul, Int.reduceToNat, zG0, zG1, zG2, zCa, zCi, zCb, zCs, zCf, zCn, zCt, zCm, zCp, e1, e2]
          refine' DA_take (i := 12) rfl (by kernel_rfl) (fun _ _ _ _ h => (kp _ _ _ h).elim) rfl (QV_index (Ev.tmp rfl) (Ev.tmp rfl) (indexAt_slice Try.underlying183 Try.sizeOf172 ?h0 ?h1)) ?_
          case h0 => omega
          case h1 => omega
          simp only [zS0, zS1, zTn, Nat.reduceAdd, Nat.reduceMul, Int.reduceToNat, zG0, zG1, zG2, zCa, zCi, zCb, zCs, zCf, zCn, zCt, zCm, zCp, e1, e2]
          first
            | (refine' DA_take (i := 13) rfl (by kernel_rfl) (fun _ _ _ _ h => (kp _ _ _ h).elim) rfl (QV_loadA (Ev.tmp rfl) Try.isAgg172 Try.sizeOf172 ?hm ?hv ?hn) ?_; (case hm => (repeat (first | exact List.Mem.head _ | assumption | apply List.Mem.tail))); (case hv => (simp only [List.toList_toArray, List.take_succ_cons, List.take_zero, List.drop_succ_cons, List.drop_zero, List.take_nil]; rfl)); (case hn => rfl))
            | (refine' DA_take (i := 13) rfl (by kernel_rfl) (fun _ _ _ _ h => (kp _ _ _ h).elim) rfl (QV_loadRA (Ev.tmp rfl) ?hp Try.isAgg172 Try.sizeOf172 ?hs ?hv ?hn) ?_; (case hs => (first | assumption | (refine' Sl.sub (by assumption) ?_; (repeat (first | with_reducible exact List.Sublist.refl _ | with_reducible exact List.nil_sublist _ | with_reducible apply List.Sublist.cons_cons | with_reducible apply List.Sublist.cons))))); (case hp => rfl); (case hv => (first | (exact g1) | (exact g2) | fail)); (case hn => rfl))
            | (refine' DA_take (i := 13) rfl (by kernel_rfl) (fun _ _ _ _ h => (kp _ _ _ h).elim) rfl (QV_loadRA (Ev.tmp rfl) ?hp Try.isAgg172 Try.sizeOf172 ?hs ?hv ?hn) ?_; (case hs => (first | assumption | (refine' Sl.sub (by assumption) ?_; (repeat (first | with_reducible exact List.Sublist.refl _ | with_reducible exact List.nil_sublist _ | with_reducible apply List.Sublist.cons_cons | with_reducible apply List.Sublist.cons))))); (case hv => (first | (exact g1) | (exact g2) | rfl)); (case hp => (first | rfl | omega)); (case hn => rfl))
          simp only [zS0, zS1, zTn, Nat.reduceAdd, Nat.reduceMul, Int.reduceToNat, zG0, zG1, zG2, zCa, zCi, zCb, zCs, zCf, zCn, zCt, zCm, zCp, e1, e2]
          refine' DA_take (i := 14) rfl (by kernel_rfl) (fun _ _ _ _ h => (kp _ _ _ h).elim) rfl (QV_index (Ev.tmp rfl) (Ev.tmp rfl) (indexAt_slice Try.underlying183 Try.sizeOf172 ?h0 ?h1)) ?_
          case h0 => omega
          case h1 => omega
          simp only [zS0, zS1, zTn, Nat.reduceAdd, Nat.reduceMul, Int.reduceToNat, zG0, zG1, zG2, zCa, zCi, zCb, zCs, zCf, zCn, zCt, zCm, zCp, e1, e2]
          refine DA_cut (q1 := 18) (by kernel_rfl) rfl ?_
          try simp only [List.nil_append, List.cons_append]
          refine DA_one (i := 15) (by kernel_rfl) ?_
          refine' DB_z (i := 15) rfl rfl rfl (SO_storeF (enc := tc) (i := k) (mvUp f a k (k + 1)) ?hx ?hy Try.sizeOf172 ?hvs tc_len tc_one ?hi ?hm) ?_
          case hx => exact Ev.tmp rfl
          case hy => exact Ev.tmp rfl
          case hvs => rfl
          case hm => (repeat (first | with_reducible exact Rep.head | apply Rep.tail))
          case hi => omega
          rintro _ _ ⟨rfl, rfl⟩
          simp only [zS0, zS1, zTn, Nat.reduceAdd, Nat.reduceMul, Int.reduceToNat, zG0, zG1, zG2, zCa, zCi, zCb, zCs, zCf, zCn, zCt, zCm, zCp, e1, e2]
          refine DA_one (i := 16) (by kernel_rfl) ?_
          refine' DB_zq (i := 16) rfl rfl rfl (QV_index (Ev.tmp rfl) (Ev.tmp rfl) (indexAt_slice Try.underlying183 Try.sizeOf172 ?h0 ?h1)) ?_
          case h0 => omega
          case h1 => omega
          simp only [zS0, zS1, zTn, Nat.reduceAdd, Nat.reduceMul, Int.reduceToNat, zG0, zG1, zG2, zCa, zCi, zCb, zCs, zCf, zCn, zCt, zCm, zCp, e1, e2]
          refine DA_one (i := 17) (by kernel_rfl) ?_
          refine' DB_z (i := 17) rfl rfl rfl (SO_storeF (enc := tc) (i := k + 1) (mvUp f a k k) ?hx ?hy Try.sizeOf172 ?hvs tc_len tc_one ?hi ?hm) ?_
          case hx => exact Ev.tmp rfl
          case hy => exact Ev.tmp rfl
          case hvs => rfl
          case hm => (repeat (first | with_reducible exact Rep.head | apply Rep.tail))
          case hi => omega
          rintro _ _ ⟨rfl, rfl⟩
          simp only [zS0, zS1, zTn, Nat.reduceAdd, Nat.reduceMul, Int.reduceToNat, zG0, zG1, zG2, zCa, zCi, zCb, zCs, zCf, zCn, zCt, zCm, zCp, e1, e2]
          refine DA_end (by kernel_rfl) ?_
          try simp only [List.nil_append, List.cons_append]
          try simp only [blockK]
          rw [hsw]
          refine hN14 _ _ ?_
          try clear hN14 N14
          refine HC_region ?_
          refine' HL_q rfl rfl (QV_move (Ev.tmp rfl)) ?_
          simp only [zS0, zS1, zTn, Nat.reduceAdd, Nat.reduceMul, Int.reduceToNat, zG0, zG1, zG2, zCa, zCi, zCb, zCs, zCf, zCn, zCt, zCm, zCp, e1, e2]
          refine' HL_q rfl rfl (QV_add (Ev.tmp rfl) Ev.const ?hr) ?_
          case hr => first | exact IntWalk.i64_in _ (by omega) | exact IntWalk.u64_in _ (by omega) | exact IntWalk.u8_in _ (by omega) | exact IntWalk.u32_in _ (by omega) | exact IntWalk.i64_quo _ _ (by omega) | exact IntWalk.u64_quo _ _ (by omega) | rfl
          simp only [zS0, zS1, zTn, Nat.reduceAdd, Nat.reduceMul, Int.reduceToNat, zG0, zG1, zG2, zCa, zCi, zCb, zCs, zCf, zCn, zCt, zCm, zCp, e1, e2]
          refine' HL_q rfl rfl (QV_assign (Ev.tmp rfl)) ?_
          simp only [zS0, zS1, zTn, Nat.reduceAdd, Nat.reduceMul, Int.reduceToNat, zG0, zG1, zG2, zCa, zCi, zCb, zCs, zCf, zCn, zCt, zCm, zCp, e1, e2]
          refine HL_nil ?_
          simp only [thenK]
          refine' againL hL8 (Gets.cons rfl Gets.nil) ?lt ?ag3 ?le ⟨k + 1, rfl, rfl, by omega, by omega, hp2, rfl⟩
          case ag3 => (simp only [setL, List.set_cons_zero, List.set_cons_succ]; exact (Ag.keep (Ag.keep (Ag.keep (Ag.keep (Ag.keep (Ag.keep (Ag.keep (Ag.keep (Ag.keep (Ag.keep (Ag.keep (Ag.keep (Ag.keep (Ag.keep (Ag.keep (Ag.keep (Ag.keep (Ag.keep (Ag.keep (Ag.keep (Ag.keep (Ag.keep (Ag.keep (Ag.keep (Ag.keep (Ag.keep (Ag.keep (Ag.keep (Ag.keep (Ag.keep (Ag.keep (Ag.keep (Ag.keep (Ag.keep (Ag.keep (Ag.keep (Ag.keep (Ag.keep (Ag.keep (Ag.keep (Ag.keep (Ag.keep (Ag.keep (Ag.keep (Ag.keep (Ag.keep (Ag.keep (Ag.keep (Ag.keep (Ag.keep (Ag.keep (Ag.keep (Ag.keep (Ag.keep (Ag.keep (Ag.any (Ag.any (Ag.any (Ag.any (Ag.any (Ag.any (Ag.any (Ag.any (Ag.any (Ag.any (Ag.any (Ag.any (Ag.any (Ag.any (Ag.any (Ag.any (Ag.any (Ag.any (Ag.any (Ag.any (Ag.any (Ag.any Ag.nil))))))))))))))))))))))))))))))))))))))))))))))))))))))))))))))))))))))))))))))
          case le => (first | with_reducible exact Le.refl | (refine Le.of ?_; (repeat (first | with_reducible exact Sp.refl | with_reducible exact Sp.nil | (apply Sp.pick; focus ((repeat (first | with_reducible exact Rm.head | with_reducible apply Rm.tail)); done)) | with_reducible refine Sp.drop ?_))))
          case lt => omega
        · refine HC_exit ?_
          simp only [thenK, blockK, reduceIte]
          have hc' : k = i - 1 := by simp at hc; omega
          subst hc'
          obtain ⟨q1, q2⟩ := mvUp_merge (key := tkey) (a := a) (b := b) (q := i - 1) (f := f) (by omega) (by omega) (ham ▸ h2) (fun k h1 h3 => Nat.le_of_lt (hlo k (by omega) (by omega))) (fun k h1 h3 => hhi k (by omega) h3)
          refine hN10 _ _ ?_
          try clear hN10 N10
          refine HC_ret ?_
          try simp only [thenK, blockK]
          refine kr _ _ ?_
          refine' Lv_none rfl ?post ?le
          case post => exact ⟨_, rfl, q1, q2, hp⟩
          case le => (first | with_reducible exact Le.refl | (refine Le.of ?_; (repeat (first | with_reducible exact Sp.refl | with_reducible exact Sp.nil | (apply Sp.pick; focus ((repeat (first | with_reducible exact Rm.head | with_reducible apply Rm.tail)); done)) | with_reducible refine Sp.drop ?_))))

/-- One element behind a sorted run. -/
theorem symMerge_last {g c n a m b : Nat} {f : Nat → Turn} (ham : a + 1 < m) (hmb : b = m + 1) (hb : b ≤ n) (hn : n ≤ 1000000) (h1 : SrtF tkey a m f) :
    CH Try.prog w0 114 #[.slice (some ⟨g, 0, none⟩) n c, .int .i64 a, .int .i64 m, .int .i64 b, .func (.func 110) #[] #[]] (own 172 3 (.slice (some ⟨g, 0, none⟩) n c) n (rowF tc n f) :: R) fun v R' =>
      ∃ f', R' = own 172 3 (.slice (some ⟨g, 0, none⟩) n c) n (rowF tc n f') :: R ∧ InF a b f f' ∧ SrtF tkey a b f' ∧ PmF n f f' := by
  have hsl := tsl (w0 := w0) (g := g) (c := c) (n := n) (f := f)
  have ga := tget (f := f) (show m < n by omega)
  refine CH_of Try.func114 rfl fun K kn kr kp => ?_
  simp only [Try.ntmps114, List.size_toArray, List.length_cons, List.length_nil, Nat.reduceAdd, Nat.reduceSub, Array.replicate_succ, Array.replicate_zero, List.push_toArray, List.append_toArray, List.nil_append, List.cons_append]
  refine HC_seq fun N1 hN1 => ?_
  refine HC_seq fun N2 hN2 => ?_
  refine HC_region ?_
  refine' HL_q rfl rfl (QV_move (Ev.tmp rfl)) ?_
  simp only [zS0, zS1, zTn, Nat.reduceAdd, Nat.reduceMul, Int.reduceToNat, zG0, zG1, zG2, zCa, zCi, zCb, zCs, zCf, zCn, zCt, zCm, zCp]
  refine' HL_q rfl rfl (QV_move (Ev.tmp rfl)) ?_
  simp only [zS0, zS1, zTn, Nat.reduceAdd, Nat.reduceMul, Int.reduceToNat, zG0, zG1, zG2, zCa, zCi, zCb, zCs, zCf, zCn, zCt, zCm, zCp]
  refine' HL_q rfl rfl (QV_sub (Ev.tmp rfl) (Ev.tmp rfl) ?hr) ?_
  case hr => first | exact IntWalk.i64_in _ (by omega) | exact IntWalk.u64_in _ (by omega) | exact IntWalk.u8_in _ (by omega) | exact IntWalk.u32_in _ (by omega) | exact IntWalk.i64_quo _ _ (by omega) | exact IntWalk.u64_quo _ _ (by omega) | rfl
  simp only [zS0, zS1, zTn, Nat.reduceAdd, Nat.reduceMul, Int.reduceToNat, zG0, zG1, zG2, zCa, zCi, zCb, zCs, zCf, zCn, zCt, zCm, zCp]
  first
    | (refine' HL_q rfl rfl (QV_eql_y (Ev.tmp rfl) Ev.const ?hb) ?_; case hb => omega)
    | (refine' HL_q rfl rfl (QV_eql_n (Ev.tmp rfl) Ev.const ?hb) ?_; case hb => omega)
    | (refine' HL_q rfl rfl (QV_eql (Ev.tmp rfl) Ev.const) ?_)
  simp only [zS0, zS1, zTn, Nat.reduceAdd, Nat.reduceMul, Int.reduceToNat, zG0, zG1, zG2, zCa, zCi, zCb, zCs, zCf, zCn, zCt, zCm, zCp]
  refine HL_nil ?_
  refine hN2 _ _ ?_
  try clear hN2 N2
  refine HC_false rfl ?_
  refine HC_skip ?_
  refine hN1 _ _ ?_
  try clear hN1 N1
  refine HC_seq fun N15 hN15 => ?_
  refine HC_seq fun N16 hN16 => ?_
  refine HC_region ?_
  refine' HL_q rfl rfl (QV_move (Ev.tmp rfl)) ?_
  simp only [zS0, zS1, zTn, Nat.reduceAdd, Nat.reduceMul, Int.reduceToNat, zG0, zG1, zG2, zCa, zCi, zCb, zCs, zCf, zCn, zCt, zCm, zCp]
  refine' HL_q rfl rfl (QV_move (Ev.tmp rfl)) ?_
  simp only [zS0, zS1, zTn, Nat.reduceAdd, Nat.reduceMul, Int.reduceToNat, zG0, zG1, zG2, zCa, zCi, zCb, zCs, zCf, zCn, zCt, zCm, zCp]
  refine' HL_q rfl rfl (QV_sub (Ev.tmp rfl) (Ev.tmp rfl) ?hr) ?_
  case hr => first | exact IntWalk.i64_in _ (by omega) | exact IntWalk.u64_in _ (by omega) | exact IntWalk.u8_in _ (by omega) | exact IntWalk.u32_in _ (by omega) | exact IntWalk.i64_quo _ _ (by omega) | exact IntWalk.u64_quo _ _ (by omega) | rfl
  simp only [zS0, zS1, zTn, Nat.reduceAdd, Nat.reduceMul, Int.reduceToNat, zG0, zG1, zG2, zCa, zCi, zCb, zCs, zCf, zCn, zCt, zCm, zCp]
  first
    | (refine' HL_q rfl rfl (QV_eql_y (Ev.tmp rfl) Ev.const ?hb) ?_; case hb => omega)
    | (refine' HL_q rfl rfl (QV_eql_n (Ev.tmp rfl) Ev.const ?hb) ?_; case hb => omega)
    | (refine' HL_q rfl rfl (QV_eql (Ev.tmp rfl) Ev.const) ?_)
  simp only [zS0, zS1, zTn, Nat.reduceAdd, Nat.reduceMul, Int.reduceToNat, zG0, zG1, zG2, zCa, zCi, zCb, zCs, zCf, zCn, zCt, zCm, zCp]
  refine HL_nil ?_
  refine hN16 _ _ ?_
  try clear hN16 N16
  refine HC_true rfl ?_
  refine HC_seq fun N17 hN17 => ?_
  refine HC_region ?_
  refine' HL_q rfl rfl (QV_move (Ev.tmp rfl)) ?_
  simp only [zS0, zS1, zTn, Nat.reduceAdd, Nat.reduceMul, Int.reduceToNat, zG0, zG1, zG2, zCa, zCi, zCb, zCs, zCf, zCn, zCt, zCm, zCp]
  refine' HL_q rfl rfl (QV_assign (Ev.tmp rfl)) ?_
  simp only [zS0, zS1, zTn, Nat.reduceAdd, Nat.reduceMul, Int.reduceToNat, zG0, zG1, zG2, zCa, zCi, zCb, zCs, zCf, zCn, zCt, zCm, zCp]
  refine HL_nil ?_
  refine hN17 _ _ ?_
  try clear hN17 N17
  refine HC_seq fun N18 hN18 => ?_
  refine HC_region ?_
  refine' HL_q rfl rfl (QV_move (Ev.tmp rfl)) ?_
  simp only [zS0, zS1, zTn, Nat.reduceAdd, Nat.reduceMul, Int.reduceToNat, zG0, zG1, zG2, zCa, zCi, zCb, zCs, zCf, zCn, zCt, zCm, zCp]
  refine' HL_q rfl rfl (QV_assign (Ev.tmp rfl)) ?_
  simp only [zS0, zS1, zTn, Nat.reduceAdd, Nat.reduceMul, Int.reduceToNat, zG0, zG1, zG2, zCa, zCi, zCb, zCs, zCf, zCn, zCt, zCm, zCp]
  refine HL_nil ?_
  refine hN18 _ _ ?_
  try clear hN18 N18
  refine HC_seq fun N19 hN19 => ?_
  refine HC_block ?_
  refine HC_loop [14, 15] [false, false, false, false, false, false, false, false, false, false, false, false, false, false, false, false, true, false, false, false, false, false, false, false, false, false, false, false, false, false, false, false, false, false, false, false, false, false, false, false, false, false, false, false, false, false, false, false, false, false, false, false, false, false, false, false, false, false, false, false, false, false, false, false, false, false, false, false, false, false, false, false, false, false, false, false, false, false, false, false, false, false, false, true, true, true, true, true, true, true, true, true, true, true, true, true, true, true, true, true, true, true, true, true, true, true, true] (fun gh vs RR => ∃ (i : Nat) (j : Nat), vs = [(.int .i64 i), (.int .i64 j)] ∧ gh = j - i ∧ a ≤ i ∧ i ≤ j ∧ j ≤ m ∧ (∀ k, a ≤ k → k < i → tkey (f k) ≤ tkey (f m)) ∧ (∀ k, j ≤ k → k < m → tkey (f m) ≤ tkey (f k)) ∧ RR = own 172 3 (.slice (some ⟨g, 0, none⟩) n c) n (rowF tc n f) :: R) ?start ?round
  case start =>
    simp only [List.map_cons, List.map_nil, List.getD_cons_zero, List.getD_cons_succ]
    refine' ⟨_, _, ?le, a, m, rfl, rfl, (Nat.le_refl _), (by omega), (Nat.le_refl _), (fun k h1 h2 => by omega), (fun k h1 h2 => by omega), rfl⟩
    case le => (first | with_reducible exact Le.refl | (refine Le.of ?_; (repeat (first | with_reducible exact Sp.refl | with_reducible exact Sp.nil | (apply Sp.pick; focus ((repeat (first | with_reducible exact Rm.head | with_reducible apply Rm.tail)); done)) | with_reducible refine Sp.drop ?_))))
  case round =>
    rintro _ _ _ u ⟨i, j, rfl, rfl, hi1, hij, hj1, hlo, hhi, rfl⟩ NL14 hL14
    simp only [setL, fill, List.set_cons_zero, List.set_cons_succ, Nat.reduceAdd]
    refine HC_seq fun N20 hN20 => ?_
    refine HC_seq fun N21 hN21 => ?_
    refine HC_region ?_
    refine' HL_q rfl rfl (QV_move (Ev.tmp rfl)) ?_
    simp only [zS0, zS1, zTn, Nat.reduceAdd, Nat.reduceMul, Int.reduceToNat, zG0, zG1, zG2, zCa, zCi, zCb, zCs, zCf, zCn, zCt, zCm, zCp]
    refine' HL_q rfl rfl (QV_move (Ev.tmp rfl)) ?_
    simp only [zS0, zS1, zTn, Nat.reduceAdd, Nat.reduceMul, Int.reduceToNat, zG0, zG1, zG2, zCa, zCi, zCb, zCs, zCf, zCn, zCt, zCm, zCp]
    first
      | (refine' HL_q rfl rfl (QV_lss_y (Ev.tmp rfl) (Ev.tmp rfl) ?hb) ?_; case hb => omega)
      | (refine' HL_q rfl rfl (QV_lss_n (Ev.tmp rfl) (Ev.tmp rfl) ?hb) ?_; case hb => omega)
      | (refine' HL_q rfl rfl (QV_lss (Ev.tmp rfl) (Ev.tmp rfl)) ?_)
    simp only [zS0, zS1, zTn, Nat.reduceAdd, Nat.reduceMul, Int.reduceToNat, zG0, zG1, zG2, zCa, zCi, zCb, zCs, zCf, zCn, zCt, zCm, zCp]
    refine HL_nil ?_
    refine hN21 _ _ ?_
    try clear hN21 N21
    refine HC_cond rfl (fun hc => ?_) (fun hc => ?_)
    · refine HC_skip ?_
      refine hN20 _ _ ?_
      try clear hN20 N20
      have hc' : i < j := by simpa using hc
      have gh := tget (f := f) (show (i + j) / 2 < n by omega)
      refine HC_block ?_
      refine HC_seq fun N22 hN22 => ?_
      refine HC_region ?_
      refine' HL_q rfl rfl (QV_move (Ev.tmp rfl)) ?_
      simp only [zS0, zS1, zTn, Nat.reduceAdd, Nat.reduceMul, Int.reduceToNat, zG0, zG1, zG2, zCa, zCi, zCb, zCs, zCf, zCn, zCt, zCm, zCp, cmpT_lt]
      refine' HL_q rfl rfl (QV_move (Ev.tmp rfl)) ?_
      simp only [zS0, zS1, zTn, Nat.reduceAdd, Nat.reduceMul, Int.reduceToNat, zG0, zG1, zG2, zCa, zCi, zCb, zCs, zCf, zCn, zCt, zCm, zCp, cmpT_lt]
      refine' HL_q rfl rfl (QV_add (Ev.tmp rfl) (Ev.tmp rfl) ?hr) ?_
      case hr => first | exact IntWalk.i64_in _ (by omega) | exact IntWalk.u64_in _ (by omega) | exact IntWalk.u8_in _ (by omega) | exact IntWalk.u32_in _ (by omega) | exact IntWalk.i64_quo _ _ (by omega) | exact IntWalk.u64_quo _ _ (by omega) | rfl
      simp only [zS0, zS1, zTn, Nat.reduceAdd, Nat.reduceMul, Int.reduceToNat, zG0, zG1, zG2, zCa, zCi, zCb, zCs, zCf, zCn, zCt, zCm, zCp, cmpT_lt]
      refine' HL_q rfl rfl (QV_cvt Try.underlying3 Try.underlying179 rfl (Ev.tmp rfl) ?hr) ?_
      case hr => first | exact IntWalk.i64_in _ (by omega) | exact IntWalk.u64_in _ (by omega) | exact IntWalk.u8_in _ (by omega) | exact IntWalk.u32_in _ (by omega) | exact IntWalk.i64_quo _ _ (by omega) | exact IntWalk.u64_quo _ _ (by omega) | rfl
      simp only [zS0, zS1, zTn, Nat.reduceAdd, Nat.reduceMul, Int.reduceToNat, zG0, zG1, zG2, zCa, zCi, zCb, zCs, zCf, zCn, zCt, zCm, zCp, cmpT_lt]
      -- operation 4
      refine' HL_q rfl rfl (QV_shr (Ev.tmp rfl) Ev.const ?h0 ?hr) ?_
      case h0 => omega
      case hr => exact half_eq i j
      simp only [zS0, zS1, zTn, Nat.reduceAdd, Nat.reduceMul, Int.reduceToNat, zG0, zG1, zG2, zCa, zCi, zCb, zCs, zCf, zCn, zCt, zCm, zCp, cmpT_lt]
      refine' HL_q rfl rfl (QV_cvt Try.underlying179 Try.underlying3 rfl (Ev.tmp rfl) ?hr) ?_
      case hr => first | exact IntWalk.i64_in _ (by omega) | exact IntWalk.u64_in _ (by omega) | exact IntWalk.u8_in _ (by omega) | exact IntWalk.u32_in _ (by omega) | exact IntWalk.i64_quo _ _ (by omega) | exact IntWalk.u64_quo _ _ (by omega) | rfl
      simp only [zS0, zS1, zTn, Nat.reduceAdd, Nat.reduceMul, Int.reduceToNat, zG0, zG1, zG2, zCa, zCi, zCb, zCs, zCf, zCn, zCt, zCm, zCp, cmpT_lt]
      refine' HL_q rfl rfl (QV_assign (Ev.tmp rfl)) ?_
      simp only [zS0, zS1, zTn, Nat.reduceAdd, Nat.reduceMul, Int.reduceToNat, zG0, zG1, zG2, zCa, zCi, zCb, zCs, zCf, zCn, zCt, zCm, zCp, cmpT_lt]
      refine HL_nil ?_
      refine hN22 _ _ ?_
      try clear hN22 N22
      refine HC_seq fun N23 hN23 => ?_
      refine HC_draw 12 [] _ mixed rfl ?_
      refine' DA_take (i := 0) rfl (by kernel_rfl) (fun _ _ _ _ h => (kp _ _ _ h).elim) rfl (QV_move (Ev.tmp rfl)) ?_
      simp only [zS0, zS1, zTn, Nat.reduceAdd, Nat.reduceMul, Int.reduceToNat, zG0, zG1, zG2, zCa, zCi, zCb, zCs, zCf, zCn, zCt, zCm, zCp, cmpT_lt]
      refine' DA_take (i := 1) rfl (by kernel_rfl) (fun _ _ _ _ h => (kp _ _ _ h).elim) rfl (QV_move (Ev.tmp rfl)) ?_
      simp only [zS0, zS1, zTn, Nat.reduceAdd, Nat.reduceMul, Int.reduceToNat, zG0, zG1, zG2, zCa, zCi, zCb, zCs, zCf, zCn, zCt, zCm, zCp, cmpT_lt]
      refine' DA_take (i := 2) rfl (by kernel_rfl) (fun _ _ _ _ h => (kp _ _ _ h).elim) rfl (QV_move (Ev.tmp rfl)) ?_
      simp only [zS0, zS1, zTn, Nat.reduceAdd, Nat.reduceMul, Int.reduceToNat, zG0, zG1, zG2, zCa, zCi, zCb, zCs, zCf, zCn, zCt, zCm, zCp, cmpT_lt]
      refine' DA_take (i := 3) rfl (by kernel_rfl) (fun _ _ _ _ h => (kp _ _ _ h).elim) rfl (QV_index (Ev.tmp rfl) (Ev.tmp rfl) (indexAt_slice Try.underlying183 Try.sizeOf172 ?h0 ?h1)) ?_
      case h0 => omega
      case h1 => omega
      simp only [zS0, zS1, zTn, Nat.reduceAdd, Nat.reduceMul, Int.reduceToNat, zG0, zG1, zG2, zCa, zCi, zCb, zCs, zCf, zCn, zCt, zCm, zCp, cmpT_lt]
      first
        | (refine' DA_take (i := 4) rfl (by kernel_rfl) (fun _ _ _ _ h => (kp _ _ _ h).elim) rfl (QV_loadA (Ev.tmp rfl) Try.isAgg172 Try.sizeOf172 ?hm ?hv ?hn) ?_; (case hm => (repeat (first | exact List.Mem.head _ | assumption | apply List.Mem.tail))); (case hv => (simp only [List.toList_toArray, List.take_succ_cons, List.take_zero, List.drop_succ_cons, List.drop_zero, List.take_nil]; rfl)); (case hn => rfl))
        | (refine' DA_take (i := 4) rfl (by kernel_rfl) (fun _ _ _ _ h => (kp _ _ _ h).elim) rfl (QV_loadRA (Ev.tmp rfl) ?hp Try.isAgg172 Try.sizeOf172 ?hs ?hv ?hn) ?_; (case hs => (first | assumption | (refine' Sl.sub (by assumption) ?_; (repeat (first | with_reducible exact List.Sublist.refl _ | with_reducible exact List.nil_sublist _ | with_reducible apply List.Sublist.cons_cons | with_reducible apply List.Sublist.cons))))); (case hp => rfl); (case hv => (first | (exact gh) | (exact ga) | fail)); (case hn => rfl))
        | (refine' DA_take (i := 4) rfl (by kernel_rfl) (fun _ _ _ _ h => (kp _ _ _ h).elim) rfl (QV_loadRA (Ev.tmp rfl) ?hp Try.isAgg172 Try.sizeOf172 ?hs ?hv ?hn) ?_; (case hs => (first | assumption | (refine' Sl.sub (by assumption) ?_; (repeat (first | with_reducible exact List.Sublist.refl _ | with_reducible exact List.nil_sublist _ | with_reducible apply List.Sublist.cons_cons | with_reducible apply List.Sublist.cons))))); (case hv => (first | (exact gh) | (exact ga) | rfl)); (case hp => (first | rfl | omega)); (case hn => rfl))
      simp only [zS0, zS1, zTn, Nat.reduceAdd, Nat.reduceMul, Int.reduceToNat, zG0, zG1, zG2, zCa, zCi, zCb, zCs, zCf, zCn, zCt, zCm, zCp, cmpT_lt]
      refine' DA_take (i := 5) rfl (by kernel_rfl) (fun _ _ _ _ h => (kp _ _ _ h).elim) rfl (QV_move (Ev.tmp rfl)) ?_
      simp only [zS0, zS1, zTn, Nat.reduceAdd, Nat.reduceMul, Int.reduceToNat, zG0, zG1, zG2, zCa, zCi, zCb, zCs, zCf, zCn, zCt, zCm, zCp, cmpT_lt]
      refine' DA_take (i := 6) rfl (by kernel_rfl) (fun _ _ _ _ h => (kp _ _ _ h).elim) rfl (QV_move (Ev.tmp rfl)) ?_
      simp only [zS0, zS1, zTn, Nat.reduceAdd, Nat.reduceMul, Int.reduceToNat, zG0, zG1, zG2, zCa, zCi, zCb, zCs, zCf, zCn, zCt, zCm, zCp, cmpT_lt]
      refine' DA_take (i := 7) rfl (by kernel_rfl) (fun _ _ _ _ h => (kp _ _ _ h).elim) rfl (QV_index (Ev.tmp rfl) (Ev.tmp rfl) (indexAt_slice Try.underlying183 Try.sizeOf172 ?h0 ?h1)) ?_
      case h0 => omega
      case h1 => omega
      simp only [zS0, zS1, zTn, Nat.reduceAdd, Nat.reduceMul, Int.reduceToNat, zG0, zG1, zG2, zCa, zCi, zCb, zCs, zCf, zCn, zCt, zCm, zCp, cmpT_lt]
      first
        | (refine' DA_take (i := 8) rfl (by kernel_rfl) (fun _ _ _ _ h => (kp _ _ _ h).elim) rfl (QV_loadA (Ev.tmp rfl) Try.isAgg172 Try.sizeOf172 ?hm ?hv ?hn) ?_; (case hm => (repeat (first | exact List.Mem.head _ | assumption | apply List.Mem.tail))); (case hv => (simp only [List.toList_toArray, List.take_succ_cons, List.take_zero, List.drop_succ_cons, List.drop_zero, List.take_nil]; rfl)); (case hn => rfl))
        | (refine' DA_take (i := 8) rfl (by kernel_rfl) (fun _ _ _ _ h => (kp _ _ _ h).elim) rfl (QV_loadRA (Ev.tmp rfl) ?hp Try.isAgg172 Try.sizeOf172 ?hs ?hv ?hn) ?_; (case hs => (first | assumption | (refine' Sl.sub (by assumption) ?_; (repeat (first | with_reducible exact List.Sublist.refl _ | with_reducible exact List.nil_sublist _ | with_reducible apply List.Sublist.cons_cons | with_reducible apply List.Sublist.cons))))); (case hp => rfl); (case hv => (first | (exact gh) | (exact ga) | fail)); (case hn => rfl))
        | (refine' DA_take (i := 8) rfl (by kernel_rfl) (fun _ _ _ _ h => (kp _ _ _ h).elim) rfl (QV_loadRA (Ev.tmp rfl) ?hp Try.isAgg172 Try.sizeOf172 ?hs ?hv ?hn) ?_; (case hs => (first | assumption | (refine' Sl.sub (by assumption) ?_; (repeat (first | with_reducible exact List.Sublist.refl _ | with_reducible exact List.nil_sublist _ | with_reducible apply List.Sublist.cons_cons | with_reducible apply List.Sublist.cons))))); (case hv => (first | (exact gh) | (exact ga) | rfl)); (case hp => (first | rfl | omega)); (case hn => rfl))
      simp only [zS0, zS1, zTn, Nat.reduceAdd, Nat.reduceMul, Int.reduceToNat, zG0, zG1, zG2, zCa, zCi, zCb, zCs, zCf, zCn, zCt, zCm, zCp, cmpT_lt]
      refine DA_one (i := 9) (by kernel_rfl) ?_
      refine' DB_call (i := 9) rfl rfl en110 (call_val (Ev.tmp rfl) (EvL.cons (Ev.tmp rfl) (EvL.cons (Ev.tmp rfl) EvL.nil)).evs) ((cmp_calls)) ?_
      rintro _ _ ⟨rfl, rfl⟩
      refine ⟨_, rfl, ?_⟩
      simp only [zS0, zS1, zTn, Nat.reduceAdd, Nat.reduceMul, Int.reduceToNat, zG0, zG1, zG2, zCa, zCi, zCb, zCs, zCf, zCn, zCt, zCm, zCp, cmpT_lt]
      first
        | (refine' DA_take (i := 10) rfl (by kernel_rfl) (fun _ _ _ _ h => (kp _ _ _ h).elim) rfl (QV_lss_y (Ev.tmp rfl) Ev.const ?hb) ?_; case hb => omega)
        | (refine' DA_take (i := 10) rfl (by kernel_rfl) (fun _ _ _ _ h => (kp _ _ _ h).elim) rfl (QV_lss_n (Ev.tmp rfl) Ev.const ?hb) ?_; case hb => omega)
        | (refine' DA_take (i := 10) rfl (by kernel_rfl) (fun _ _ _ _ h => (kp _ _ _ h).elim) rfl (QV_lss (Ev.tmp rfl) Ev.const) ?_)
      simp only [zS0, zS1, zTn, Nat.reduceAdd, Nat.reduceMul, Int.reduceToNat, zG0, zG1, zG2, zCa, zCi, zCb, zCs, zCf, zCn, zCt, zCm, zCp, cmpT_lt]
      refine' DA_take (i := 11) rfl (by kernel_rfl) (fun _ _ _ _ h => (kp _ _ _ h).elim) rfl (QV_un (Ev.tmp rfl) ?hr) ?_
      case hr => intro w; first | (go_simp; done) | (go_simp; rfl)
      simp only [zS0, zS1, zTn, Nat.reduceAdd, Nat.reduceMul, Int.reduceToNat, zG0, zG1, zG2, zCa, zCi, zCb, zCs, zCf, zCn, zCt, zCm, zCp, cmpT_lt]
      refine DA_done (by kernel_rfl) ?_
      try simp only [List.nil_append, List.cons_append]
      refine hN23 _ _ ?_
      try clear hN23 N23
      refine HC_cond rfl (fun hk => ?_) (fun hk => ?_)
      · have hk' : tkey (f ((i + j) / 2)) ≤ tkey (f m) := by simpa using hk
        refine HC_region ?_
        refine' HL_q rfl rfl (QV_move (Ev.tmp rfl)) ?_
        simp only [zS0, zS1, zTn, Nat.reduceAdd, Nat.reduceMul, Int.reduceToNat, zG0, zG1, zG2, zCa, zCi, zCb, zCs, zCf, zCn, zCt, zCm, zCp, cmpT_lt]
        refine' HL_q rfl rfl (QV_add (Ev.tmp rfl) Ev.const ?hr) ?_
        case hr => first | exact IntWalk.i64_in _ (by omega) | exact IntWalk.u64_in _ (by omega) | exact IntWalk.u8_in _ (by omega) | exact IntWalk.u32_in _ (by omega) | exact IntWalk.i64_quo _ _ (by omega) | exact IntWalk.u64_quo _ _ (by omega) | rfl
        simp only [zS0, zS1, zTn, Nat.reduceAdd, Nat.reduceMul, Int.reduceToNat, zG0, zG1, zG2, zCa, zCi, zCb, zCs, zCf, zCn, zCt, zCm, zCp, cmpT_lt]
        refine' HL_q rfl rfl (QV_assign (Ev.tmp rfl)) ?_
        simp only [zS0, zS1, zTn, Nat.reduceAdd, Nat.reduceMul, Int.reduceToNat, zG0, zG1, zG2, zCa, zCi, zCb, zCs, zCf, zCn, zCt, zCm, zCp, cmpT_lt]
        refine HL_nil ?_
        try simp only [blockK]
        simp only [thenK]
        refine' againL hL14 (Gets.cons rfl (Gets.cons rfl Gets.nil)) ?lt ?ag4 ?le ⟨(i + j) / 2 + 1, j, rfl, rfl, by omega, by omega, hj1, ?lo, hhi, rfl⟩
        case ag4 => (simp only [setL, List.set_cons_zero, List.set_cons_succ]; exact (Ag.keep (Ag.keep (Ag.keep (Ag.keep (Ag.keep (Ag.keep (Ag.keep (Ag.keep (Ag.keep (Ag.keep (Ag.keep (Ag.keep (Ag.keep (Ag.keep (Ag.keep (Ag.keep (Ag.any (Ag.keep (Ag.keep (Ag.keep (Ag.keep (Ag.keep (Ag.keep (Ag.keep (Ag.keep (Ag.keep (Ag.keep (Ag.keep (Ag.keep (Ag.keep (Ag.keep (Ag.keep (Ag.keep (Ag.keep (Ag.keep (Ag.keep (Ag.keep (Ag.keep (Ag.keep (Ag.keep (Ag.keep (Ag.keep (Ag.keep (Ag.keep (Ag.keep (Ag.keep (Ag.keep (Ag.keep (Ag.keep (Ag.keep (Ag.keep (Ag.keep (Ag.keep (Ag.keep (Ag.keep (Ag.keep (Ag.keep (Ag.keep (Ag.keep (Ag.keep (Ag.keep (Ag.keep (Ag.keep (Ag.keep (Ag.keep (Ag.keep (Ag.keep (Ag.keep (Ag.keep (Ag.keep (Ag.keep (Ag.keep (Ag.keep (Ag.keep (Ag.keep (Ag.keep (Ag.keep (Ag.keep (Ag.keep (Ag.keep (Ag.keep (Ag.keep (Ag.keep (Ag.any (Ag.any (Ag.any (Ag.any (Ag.any (Ag.any (Ag.any (Ag.any (Ag.any (Ag.any (Ag.any (Ag.any (Ag.any (Ag.any (Ag.any (Ag.any (Ag.any (Ag.any (Ag.any (Ag.any (Ag.any (Ag.any (Ag.any (Ag.any Ag.nil))))))))))))))))))))))))))))))))))))))))))))))))))))))))))))))))))))))))))))))))))))))))))))))))))))))))))))
        case le => (first | with_reducible exact Le.refl | (refine Le.of ?_; (repeat (first | with_reducible exact Sp.refl | with_reducible exact Sp.nil | (apply Sp.pick; focus ((repeat (first | with_reducible exact Rm.head | with_reducible apply Rm.tail)); done)) | with_reducible refine Sp.drop ?_))))
        case lt => omega
        case lo =>
          intro k h2 h3
          rcases Nat.eq_or_lt_of_le (show k ≤ (i + j) / 2 by omega) with h4 | h4
          · rw [h4]; exact hk'
          · exact Nat.le_trans (h1 k _ h2 h4 (by omega)) hk'
      · have hk' : tkey (f m) < tkey (f ((i + j) / 2)) := by simpa using hk
        refine HC_region ?_
        refine' HL_q rfl rfl (QV_move (Ev.tmp rfl)) ?_
        simp only [zS0, zS1, zTn, Nat.reduceAdd, Nat.reduceMul, Int.reduceToNat, zG0, zG1, zG2, zCa, zCi, zCb, zCs, zCf, zCn, zCt, zCm, zCp, cmpT_lt]
        refine' HL_q rfl rfl (QV_assign (Ev.tmp rfl)) ?_
        simp only [zS0, zS1, zTn, Nat.reduceAdd, Nat.reduceMul, Int.reduceToNat, zG0, zG1, zG2, zCa, zCi, zCb, zCs, zCf, zCn, zCt, zCm, zCp, cmpT_lt]
        refine HL_nil ?_
        try simp only [blockK]
        simp only [thenK]
        refine' againL hL14 (Gets.cons rfl (Gets.cons rfl Gets.nil)) ?lt ?ag5 ?le ⟨i, (i + j) / 2, rfl, rfl, hi1, by omega, by omega, hlo, ?hi, rfl⟩
        case ag5 => (simp only [setL, List.set_cons_zero, List.set_cons_succ]; exact (Ag.keep (Ag.keep (Ag.keep (Ag.keep (Ag.keep (Ag.keep (Ag.keep (Ag.keep (Ag.keep (Ag.keep (Ag.keep (Ag.keep (Ag.keep (Ag.keep (Ag.keep (Ag.keep (Ag.any (Ag.keep (Ag.keep (Ag.keep (Ag.keep (Ag.keep (Ag.keep (Ag.keep (Ag.keep (Ag.keep (Ag.keep (Ag.keep (Ag.keep (Ag.keep (Ag.keep (Ag.keep (Ag.keep (Ag.keep (Ag.keep (Ag.keep (Ag.keep (Ag.keep (Ag.keep (Ag.keep (Ag.keep (Ag.keep (Ag.keep (Ag.keep (Ag.keep (Ag.keep (Ag.keep (Ag.keep (Ag.keep (Ag.keep (Ag.keep (Ag.keep (Ag.keep (Ag.keep (Ag.keep (Ag.keep (Ag.keep (Ag.keep (Ag.keep (Ag.keep (Ag.keep (Ag.keep (Ag.keep (Ag.keep (Ag.keep (Ag.keep (Ag.keep (Ag.keep (Ag.keep (Ag.keep (Ag.keep (Ag.keep (Ag.keep (Ag.keep (Ag.keep (Ag.keep (Ag.keep (Ag.keep (Ag.keep (Ag.keep (Ag.keep (Ag.keep (Ag.keep (Ag.any (Ag.any (Ag.any (Ag.any (Ag.any (Ag.any (Ag.any (Ag.any (Ag.any (Ag.any (Ag.any (Ag.any (Ag.any (Ag.any (Ag.any (Ag.any (Ag.any (Ag.any (Ag.any (Ag.any (Ag.any (Ag.any (Ag.any (Ag.any Ag.nil))))))))))))))))))))))))))))))))))))))))))))))))))))))))))))))))))))))))))))))))))))))))))))))))))))))))))))
        case le => (first | with_reducible exact Le.refl | (refine Le.of ?_; (repeat (first | with_reducible exact Sp.refl | with_reducible exact Sp.nil | (apply Sp.pick; focus ((repeat (first | with_reducible exact Rm.head | with_reducible apply Rm.tail)); done)) | with_reducible refine Sp.drop ?_))))
        case lt => omega
        case hi =>
          intro k h2 h3
          rcases Nat.eq_or_lt_of_le h2 with h4 | h4
          · rw [← h4]; exact Nat.le_of_lt hk'
          · exact Nat.le_trans (Nat.le_of_lt hk') (h1 _ k (by omega) h4 h3)
    · refine HC_exit ?_
      simp only [thenK, blockK, reduceIte]
      have hc' : i = j := by simp at hc; omega
      subst hc'
      refine hN19 _ _ ?_
      try clear hN19 N19
      refine HC_seq fun N24 hN24 => ?_
      refine HC_seq fun N25 hN25 => ?_
      refine HC_region ?_
      refine' HL_q rfl rfl (QV_move (Ev.tmp rfl)) ?_
      simp only [zS0, zS1, zTn, Nat.reduceAdd, Nat.reduceMul, Int.reduceToNat, zG0, zG1, zG2, zCa, zCi, zCb, zCs, zCf, zCn, zCt, zCm, zCp, cmpT_lt]
      refine' HL_q rfl rfl (QV_assign (Ev.tmp rfl)) ?_
      simp only [zS0, zS1, zTn, Nat.reduceAdd, Nat.reduceMul, Int.reduceToNat, zG0, zG1, zG2, zCa, zCi, zCb, zCs, zCf, zCn, zCt, zCm, zCp, cmpT_lt]
      refine HL_nil ?_
      refine hN25 _ _ ?_
      try clear hN25 N25
      refine HC_block ?_
      refine HC_loop [17] [false, false, false, false, false, false, false, false, false, false, false, false, false, false, false, false, false, false, false, false, false, false, false, false, false, false, false, false, false, false, false, false, false, false, false, false, false, false, false, false, false, false, false, false, false, false, false, false, false, false, false, false, false, false, false, false, false, false, false, false, false, false, false, false, false, false, false, false, false, false, false, false, false, false, false, false, false, false, false, false, false, false, false, false, false, false, false, false, false, false, false, false, false, false, false, false, false, false, false, false, false, false, false, false, false, false, false, false, true, true, true, true, true, true, true, true, true, true, true, true, true, true, true, true, true, true, true, true, true] (fun gh vs RR => ∃ (k : Nat), vs = [(.int .i64 k)] ∧ gh = k + 1 ∧ i ≤ k ∧ k ≤ m ∧ PmF n f (mvDn f m k) ∧ RR = own 172 3 (.slice (some ⟨g, 0, none⟩) n c) n (rowF tc n (mvDn f m k)) :: R) ?start ?round
      case start =>
        simp only [List.map_cons, List.map_nil, List.getD_cons_zero, List.getD_cons_succ]
        refine' ⟨_, _, ?le, m, rfl, rfl, (by omega), (Nat.le_refl _), (by rw [mvDn_self]; exact PmF.refl), (by rw [mvDn_self])⟩
        case le => (first | with_reducible exact Le.refl | (refine Le.of ?_; (repeat (first | with_reducible exact Sp.refl | with_reducible exact Sp.nil | (apply Sp.pick; focus ((repeat (first | with_reducible exact Rm.head | with_reducible apply Rm.tail)); done)) | with_reducible refine Sp.drop ?_))))
      case round =>
        rintro _ _ _ u ⟨k, rfl, rfl, hk1, hk2, hp, rfl⟩ NL20 hL20
        simp only [setL, fill, List.set_cons_zero, List.set_cons_succ, Nat.reduceAdd]
        refine HC_seq fun N26 hN26 => ?_
        refine HC_seq fun N27 hN27 => ?_
        refine HC_region ?_
        refine' HL_q rfl rfl (QV_move (Ev.tmp rfl)) ?_
        simp only [zS0, zS1, zTn, Nat.reduceAdd, Nat.reduceMul, Int.reduceToNat, zG0, zG1, zG2, zCa, zCi, zCb, zCs, zCf, zCn, zCt, zCm, zCp, cmpT_lt]
        refine' HL_q rfl rfl (QV_move (Ev.tmp rfl)) ?_
        simp only [zS0, zS1, zTn, Nat.reduceAdd, Nat.reduceMul, Int.reduceToNat, zG0, zG1, zG2, zCa, zCi, zCb, zCs, zCf, zCn, zCt, zCm, zCp, cmpT_lt]
        first
          | (refine' HL_q rfl rfl (QV_gtr_y (Ev.tmp rfl) (Ev.tmp rfl) ?hb) ?_; case hb => omega)
          | (refine' HL_q rfl rfl (QV_gtr_n (Ev.tmp rfl) (Ev.tmp rfl) ?hb) ?_; case hb => omega)
          | (refine' HL_q rfl rfl (QV_gtr (Ev.tmp rfl) (Ev.tmp rfl)) ?_)
        simp only [zS0, zS1, zTn, Nat.reduceAdd, Nat.reduceMul, Int.reduceToNat, zG0, zG1, zG2, zCa, zCi, zCb, zCs, zCf, zCn, zCt, zCm, zCp, cmpT_lt]
        refine HL_nil ?_
        refine hN27 _ _ ?_
        try clear hN27 N27
        refine HC_cond rfl (fun hc => ?_) (fun hc => ?_)
        · refine HC_skip ?_
          refine hN26 _ _ ?_
          try clear hN26 N26
          have hc' : i < k := by simpa using hc
          have hsl := tsl (w0 := w0) (g := g) (c := c) (n := n) (f := mvDn f m k)
          have g1 := tget (f := mvDn f m k) (show k < n by omega)
          have g2 := tget (f := mvDn f m k) (show k - 1 < n by omega)
          have e2 : (k : Int) - 1 = ((k - 1 : Nat) : Int) := by omega
          have hsw : upd (upd (mvDn f m k) k (mvDn f m k (k - 1))) (k - 1) (mvDn f m k k) = mvDn f m (k - 1) := by rw [swF_eq, mvDn_pred f hk2 (by omega)]
          have hp2 : PmF n f (mvDn f m (k - 1)) := by
            rw [← mvDn_pred f hk2 (by omega)]
            exact hp.trans (PmF_sw (by omega) (by omega))
          refine HC_seq fun N28 hN28 => ?_
          refine HC_block ?_
          refine HC_draw 15 [] _ mixed rfl ?_
          refine' DA_take (i := 0) rfl (by kernel_rfl) (fun _ _ _ _ h => (kp _ _ _ h).elim) rfl (QV_move (Ev.tmp rfl)) ?_
          simp only [zS0, zS1, zTn, Nat.reduceAdd, Nat.reduceMul, Int.reduceToNat, zG0, zG1, zG2, zCa, zCi, zCb, zCs, zCf, zCn, zCt, zCm, zCp, e2]
          refine' DA_take (i := 1) rfl (by kernel_rfl) (fun _ _ _ _ h => (kp _ _ _ h).elim) rfl (QV_move (Ev.tmp rfl)) ?_
          simp only [zS0, zS1, zTn, Nat.reduceAdd, Nat.reduceMul, Int.reduceToNat, zG0, zG1, zG2, zCa, zCi, zCb, zCs, zCf, zCn, zCt, zCm, zCp, e2]
          refine' DA_move (i := 2) rfl (by kernel_rfl) (fun _ _ _ _ h => (kp _ _ _ h).elim) rfl (Ev.tmp rfl) ?_
          simp only [zS0, zS1, zTn, Nat.reduceAdd, Nat.reduceMul, Int.reduceToNat, zG0, zG1, zG2, zCa, zCi, zCb, zCs, zCf, zCn, zCt, zCm, zCp, e2]
          refine' DA_move (i := 3) rfl (by kernel_rfl) (fun _ _ _ _ h => (kp _ _ _ h).elim) rfl (Ev.tmp rfl) ?_
          simp only [zS0, zS1, zTn, Nat.reduceAdd, Nat.reduceMul, Int.reduceToNat, zG0, zG1, zG2, zCa, zCi, zCb, zCs, zCf, zCn, zCt, zCm, zCp, e2]
          refine' DA_pure (i := 4) rfl (by kernel_rfl) (fun _ _ _ _ h => (kp _ _ _ h).elim) rfl (fun w1 => QV_sub (Ev.tmp rfl) Ev.const ?hr) ?_
          case hr => first | exact IntWalk.i64_in _ (by omega) | exact IntWalk.u64_in _ (by omega) | exact IntWalk.u8_in _ (by omega) | exact IntWalk.u32_in _ (by omega) | exact IntWalk.i64_quo _ _ (by omega) | exact IntWalk.u64_quo _ _ (by omega) | rfl
          simp only [zS0, zS1, zTn, Nat.reduceAdd, Nat.reduceMul, Int.reduceToNat, zG0, zG1, zG2, zCa, zCi, zCb, zCs, zCf, zCn, zCt, zCm, zCp, e2]
          refine' DA_take (i := 5) rfl (by kernel_rfl) (fun _ _ _ _ h => (kp _ _ _ h).elim) rfl (QV_move (Ev.tmp rfl)) ?_
          simp only [zS0, zS1, zTn, Nat.reduceAdd, Nat.reduceMul, Int.reduceToNat, zG0, zG1, zG2, zCa, zCi, zCb, zCs, zCf, zCn, zCt, zCm, zCp, e2]
          refine' DA_take (i := 6) rfl (by kernel_rfl) (fun _ _ _ _ h => (kp _ _ _ h).elim) rfl (QV_move (Ev.tmp rfl)) ?_
          simp only [zS0, zS1, zTn, Nat.reduceAdd, Nat.reduceMul, Int.reduceToNat, zG0, zG1, zG2, zCa, zCi, zCb, zCs, zCf, zCn, zCt, zCm, zCp, e2]
          refine' DA_take (i := 7) rfl (by kernel_rfl) (fun _ _ _ _ h => (kp _ _ _ h).elim) rfl (QV_sub (Ev.tmp rfl) Ev.const ?hr) ?_
          case hr => first | exact IntWalk.i64_in _ (by omega) | exact IntWalk.u64_in _ (by omega) | exact IntWalk.u8_in _ (by omega) | exact IntWalk.u32_in _ (by omega) | exact IntWalk.i64_quo _ _ (by omega) | exact IntWalk.u64_quo _ _ (by omega) | rfl
          simp only [zS0, zS1, zTn, Nat.reduceAdd, Nat.reduceMul, Int.reduceToNat, zG0, zG1, zG2, zCa, zCi, zCb, zCs, zCf, zCn, zCt, zCm, zCp, e2]
          refine' DA_take (i := 8) rfl (by kernel_rfl) (fun _ _ _ _ h => (kp _ _ _ h).elim) rfl (QV_index (Ev.tmp rfl) (Ev.tmp rfl) (indexAt_slice Try.underlying183 Try.sizeOf172 ?h0 ?h1)) ?_
          case h0 => omega
          case h1 => omega
          simp only [zS0, zS1, zTn, Nat.reduceAdd, Nat.reduceMul, Int.reduceToNat, zG0, zG1, zG2, zCa, zCi, zCb, zCs, zCf, zCn, zCt, zCm, zCp, e2]
          first
            | (refine' DA_take (i := 9) rfl (by kernel_rfl) (fun _ _ _ _ h => (kp _ _ _ h).elim) rfl (QV_loadA (Ev.tmp rfl) Try.isAgg172 Try.sizeOf172 ?hm ?hv ?hn) ?_; (case hm => (repeat (first | exact List.Mem.head _ | assumption | apply List.Mem.tail))); (case hv => (simp only [List.toList_toArray, List.take_succ_cons, List.take_zero, List.drop_succ_cons, List.drop_zero, List.take_nil]; rfl)); (case hn => rfl))
            | (refine' DA_take (i := 9) rfl (by kernel_rfl) (fun _ _ _ _ h => (kp _ _ _ h).elim) rfl (QV_loadRA (Ev.tmp rfl) ?hp Try.isAgg172 Try.sizeOf172 ?hs ?hv ?hn) ?_; (case hs => (first | assumption | (refine' Sl.sub (by assumption) ?_; (repeat (first | with_reducible exact List.Sublist.refl _ | with_reducible exact List.nil_sublist _ | with_reducible apply List.Sublist.cons_cons | with_reducible apply List.Sublist.cons))))); (case hp => rfl); (case hv => (first | (exact g1) | (exact g2) | fail)); (case hn => rfl))
            | (refine' DA_take (i := 9) rfl (by kernel_rfl) (fun _ _ _ _ h => (kp _ _ _ h).elim) rfl (QV_loadRA (Ev.tmp rfl) ?hp Try.isAgg172 Try.sizeOf172 ?hs ?hv ?hn) ?_; (case hs => (first | assumption | (refine' Sl.sub (by assumption) ?_; (repeat (first | with_reducible exact List.Sublist.refl _ | with_reducible exact List.nil_sublist _ | with_reducible apply List.Sublist.cons_cons | with_reducible apply List.Sublist.cons))))); (case hv => (first | (exact g1) | (exact g2) | rfl)); (case hp => (first | rfl | omega)); (case hn => rfl))
          simp only [zS0, zS1, zTn, Nat.reduceAdd, Nat.reduceMul, Int.reduceToNat, zG0, zG1, zG2, zCa, zCi, zCb, zCs, zCf, zCn, zCt, zCm, zCp, e2]
          refine' DA_take (i := 10) rfl (by kernel_rfl) (fun _ _ _ _ h => (kp _ _ _ h).elim) rfl (QV_move (Ev.tmp rfl)) ?_
          simp only [zS0, zS1, zTn, Nat.reduceAdd, Nat.reduceMul, Int.reduceToNat, zG0, zG1, zG2, zCa, zCi, zCb, zCs, zCf, zCn, zCt, zCm, zCp, e2]
          refine' DA_take (i := 11) rfl (by kernel_rfl) (fun _ _ _ _ h => (kp _ _ _ h).elim) rfl (QV_move (Ev.tmp rfl)) ?_
          simp only [zS0, zS1, zTn, Nat.reduceAdd, Nat.reduceMul, Int.reduceToNat, zG0, zG1, zG2, zCa, zCi, zCb, zCs, zCf, zCn, zCt, zCm, zCp, e2]
          refine' DA_take (i := 12) rfl (by kernel_rfl) (fun _ _ _ _ h => (kp _ _ _ h).elim) rfl (QV_index (Ev.tmp rfl) (Ev.tmp rfl) (indexAt_slice Try.underlying183 Try.sizeOf172 ?h0 ?h1)) ?_
          case h0 => omega
          case h1 => omega
          simp only [zS0, zS1, zTn, Nat.reduceAdd, Nat.reduceMul, Int.reduceToNat, zG0, zG1, zG2, zCa, zCi, zCb, zCs, zCf, zCn, zCt, zCm, zCp, e2]
          first
            | (refine' DA_take (i := 13) rfl (by kernel_rfl) (fun _ _ _ _ h => (kp _ _ _ h).elim) rfl (QV_loadA (Ev.tmp rfl) Try.isAgg172 Try.sizeOf172 ?hm ?hv ?hn) ?_; (case hm => (repeat (first | exact List.Mem.head _ | assumption | apply List.Mem.tail))); (case hv => (simp only [List.toList_toArray, List.take_succ_cons, List.take_zero, List.drop_succ_cons, List.drop_zero, List.take_nil]; rfl)); (case hn => rfl))
            | (refine' DA_take (i := 13) rfl (by kernel_rfl) (fun _ _ _ _ h => (kp _ _ _ h).elim) rfl (QV_loadRA (Ev.tmp rfl) ?hp Try.isAgg172 Try.sizeOf172 ?hs ?hv ?hn) ?_; (case hs => (first | assumption | (refine' Sl.sub (by assumption) ?_; (repeat (first | with_reducible exact List.Sublist.refl _ | with_reducible exact List.nil_sublist _ | with_reducible apply List.Sublist.cons_cons | with_reducible apply List.Sublist.cons))))); (case hp => rfl); (case hv => (first | (exact g1) | (exact g2) | fail)); (case hn => rfl))
            | (refine' DA_take (i := 13) rfl (by kernel_rfl) (fun _ _ _ _ h => (kp _ _ _ h).elim) rfl (QV_loadRA (Ev.tmp rfl) ?hp Try.isAgg172 Try.sizeOf172 ?hs ?hv ?hn) ?_; (case hs => (first | assumption | (refine' Sl.sub (by assumption) ?_; (repeat (first | with_reducible exact List.Sublist.refl _ | with_reducible exact List.nil_sublist _ | with_reducible apply List.Sublist.cons_cons | with_reducible apply List.Sublist.cons))))); (case hv => (first | (exact g1) | (exact g2) | rfl)); (case hp => (first | rfl | omega)); (case hn => rfl))
          simp only [zS0, zS1, zTn, Nat.reduceAdd, Nat.reduceMul, Int.reduceToNat, zG0, zG1, zG2, zCa, zCi, zCb, zCs, zCf, zCn, zCt, zCm, zCp, e2]
          refine' DA_take (i := 14) rfl (by kernel_rfl) (fun _ _ _ _ h => (kp _ _ _ h).elim) rfl (QV_index (Ev.tmp rfl) (Ev.tmp rfl) (indexAt_slice Try.underlying183 Try.sizeOf172 ?h0 ?h1)) ?_
          case h0 => omega
          case h1 => omega
          simp only [zS0, zS1, zTn, Nat.reduceAdd, Nat.reduceMul, Int.reduceToNat, zG0, zG1, zG2, zCa, zCi, zCb, zCs, zCf, zCn, zCt, zCm, zCp, e2]
          refine DA_cut (q1 := 18) (by kernel_rfl) rfl ?_
          try simp only [List.nil_append, List.cons_append]
          refine DA_one (i := 15) (by kernel_rfl) ?_
          refine' DB_z (i := 15) rfl rfl rfl (SO_storeF (enc := tc) (i := k) (mvDn f m k (k - 1)) ?hx ?hy Try.sizeOf172 ?hvs tc_len tc_one ?hi ?hm) ?_
          case hx => exact Ev.tmp rfl
          case hy => exact Ev.tmp rfl
          case hvs => rfl
          case hm => (repeat (first | with_reducible exact Rep.head | apply Rep.tail))
          case hi => omega
          rintro _ _ ⟨rfl, rfl⟩
          simp only [zS0, zS1, zTn, Nat.reduceAdd, Nat.reduceMul, Int.reduceToNat, zG0, zG1, zG2, zCa, zCi, zCb, zCs, zCf, zCn, zCt, zCm, zCp, e2]
          refine DA_one (i := 16) (by kernel_rfl) ?_
          refine' DB_zq (i := 16) rfl rfl rfl (QV_index (Ev.tmp rfl) (Ev.tmp rfl) (indexAt_slice Try.underlying183 Try.sizeOf172 ?h0 ?h1)) ?_
          case h0 => omega
          case h1 => omega
          simp only [zS0, zS1, zTn, Nat.reduceAdd, Nat.reduceMul, Int.reduceToNat, zG0, zG1, zG2, zCa, zCi, zCb, zCs, zCf, zCn, zCt, zCm, zCp, e2]
          refine DA_one (i := 17) (by kernel_rfl) ?_
          refine' DB_z (i := 17) rfl rfl rfl (SO_storeF (enc := tc) (i := k - 1) (mvDn f m k k) ?hx ?hy Try.sizeOf172 ?hvs tc_len tc_one ?hi ?hm) ?_
          case hx => exact Ev.tmp rfl
          case hy => exact Ev.tmp rfl
          case hvs => rfl
          case hm => (repeat (first | with_reducible exact Rep.head | apply Rep.tail))
          case hi => omega
          rintro _ _ ⟨rfl, rfl⟩
          simp only [zS0, zS1, zTn, Nat.reduceAdd, Nat.reduceMul, Int.reduceToNat, zG0, zG1, zG2, zCa, zCi, zCb, zCs, zCf, zCn, zCt, zCm, zCp, e2]
          refine DA_end (by kernel_rfl) ?_
          try simp only [List.nil_append, List.cons_append]
          try simp only [blockK]
          rw [hsw]
          refine hN28 _ _ ?_
          try clear hN28 N28
          refine HC_region ?_
          refine' HL_q rfl rfl (QV_move (Ev.tmp rfl)) ?_
          simp only [zS0, zS1, zTn, Nat.reduceAdd, Nat.reduceMul, Int.reduceToNat, zG0, zG1, zG2, zCa, zCi, zCb, zCs, zCf, zCn, zCt, zCm, zCp, e2]
          refine' HL_q rfl rfl (QV_sub (Ev.tmp rfl) Ev.const ?hr) ?_
          case hr => first | exact IntWalk.i64_in _ (by omega) | exact IntWalk.u64_in _ (by omega) | exact IntWalk.u8_in _ (by omega) | exact IntWalk.u32_in _ (by omega) | exact IntWalk.i64_quo _ _ (by omega) | exact IntWalk.u64_quo _ _ (by omega) | rfl
          simp only [zS0, zS1, zTn, Nat.reduceAdd, Nat.reduceMul, Int.reduceToNat, zG0, zG1, zG2, zCa, zCi, zCb, zCs, zCf, zCn, zCt, zCm, zCp, e2]
          refine' HL_q rfl rfl (QV_assign (Ev.tmp rfl)) ?_
          simp only [zS0, zS1, zTn, Nat.reduceAdd, Nat.reduceMul, Int.reduceToNat, zG0, zG1, zG2, zCa, zCi, zCb, zCs, zCf, zCn, zCt, zCm, zCp, e2]
          refine HL_nil ?_
          simp only [thenK]
          refine' againL hL20 (Gets.cons rfl Gets.nil) ?lt ?ag6 ?le ⟨k - 1, rfl, rfl, by omega, by omega, hp2, rfl⟩
          case ag6 => (simp only [setL, List.set_cons_zero, List.set_cons_succ]; exact (Ag.keep (Ag.keep (Ag.keep (Ag.keep (Ag.keep (Ag.keep (Ag.keep (Ag.keep (Ag.keep (Ag.keep (Ag.keep (Ag.keep (Ag.keep (Ag.keep (Ag.keep (Ag.keep (Ag.keep (Ag.keep (Ag.keep (Ag.keep (Ag.keep (Ag.keep (Ag.keep (Ag.keep (Ag.keep (Ag.keep (Ag.keep (Ag.keep (Ag.keep (Ag.keep (Ag.keep (Ag.keep (Ag.keep (Ag.keep (Ag.keep (Ag.keep (Ag.keep (Ag.keep (Ag.keep (Ag.keep (Ag.keep (Ag.keep (Ag.keep (Ag.keep (Ag.keep (Ag.keep (Ag.keep (Ag.keep (Ag.keep (Ag.keep (Ag.keep (Ag.keep (Ag.keep (Ag.keep (Ag.keep (Ag.keep (Ag.keep (Ag.keep (Ag.keep (Ag.keep (Ag.keep (Ag.keep (Ag.keep (Ag.keep (Ag.keep (Ag.keep (Ag.keep (Ag.keep (Ag.keep (Ag.keep (Ag.keep (Ag.keep (Ag.keep (Ag.keep (Ag.keep (Ag.keep (Ag.keep (Ag.keep (Ag.keep (Ag.keep (Ag.keep (Ag.keep (Ag.keep (Ag.keep (Ag.keep (Ag.keep (Ag.keep (Ag.keep (Ag.keep (Ag.keep (Ag.keep (Ag.keep (Ag.keep (Ag.keep (Ag.keep (Ag.keep (Ag.keep (Ag.keep (Ag.keep (Ag.keep (Ag.keep (Ag.keep (Ag.keep (Ag.keep (Ag.keep (Ag.keep (Ag.keep (Ag.keep (Ag.any (Ag.any (Ag.any (Ag.any (Ag.any (Ag.any (Ag.any (Ag.any (Ag.any (Ag.any (Ag.any (Ag.any (Ag.any (Ag.any (Ag.any (Ag.any (Ag.any (Ag.any (Ag.any (Ag.any (Ag.any Ag.nil))))))))))))))))))))))))))))))))))))))))))))))))))))))))))))))))))))))))))))))))))))))))))))))))))))))))))))))))))))))))))))))))))
          case le => (first | with_reducible exact Le.refl | (refine Le.of ?_; (repeat (first | with_reducible exact Sp.refl | with_reducible exact Sp.nil | (apply Sp.pick; focus ((repeat (first | with_reducible exact Rm.head | with_reducible apply Rm.tail)); done)) | with_reducible refine Sp.drop ?_))))
          case lt => omega
        · refine HC_exit ?_
          simp only [thenK, blockK, reduceIte]
          have hc' : k = i := by simp at hc; omega
          subst hc'
          obtain ⟨q1, q2⟩ := mvDn_merge (key := tkey) (a := a) (m := m) (q := k) (f := f) (by omega) (by omega) h1 hlo hhi
          subst hmb
          refine hN24 _ _ ?_
          try clear hN24 N24
          refine HC_ret ?_
          try simp only [thenK, blockK]
          refine kr _ _ ?_
          refine' Lv_none rfl ?post ?le
          case post => exact ⟨_, rfl, q1, q2, hp⟩
          case le => (first | with_reducible exact Le.refl | (refine Le.of ?_; (repeat (first | with_reducible exact Sp.refl | with_reducible exact Sp.nil | (apply Sp.pick; focus ((repeat (first | with_reducible exact Rm.head | with_reducible apply Rm.tail)); done)) | with_reducible refine Sp.drop ?_))))
end Go.Proofs.Ytcilfoicoambhaa
