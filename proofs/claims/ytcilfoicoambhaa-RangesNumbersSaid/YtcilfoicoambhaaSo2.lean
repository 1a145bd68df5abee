import Derived.Test.YtcilfoicoambhaaSo1
set_option linter.unusedVariables false
set_option linter.unusedSimpArgs false
set_option maxRecDepth 20000
set_option maxHeartbeats 1000000
namespace Go.Proofs.Ytcilfoicoambhaa
open Go Go.Hw Go.RowKit

variable {w0 : World} {R : List Asn}

theorem tget {n : Nat} {f : Nat → Turn} {i : Nat} (hi : i < n) : ((rowF tc n f).drop (i * 3)).take 3 = tc (f i) := rowF_get tc_len f hi
theorem tsl {g n c : Nat} {f : Nat → Turn} : Sl w0 [own 172 3 (.slice (some ⟨g, 0, none⟩) n c) n (rowF tc n f)] 3 (some ⟨g, 0, none⟩) n (rowF tc n f) := sl_ownF tc_len tc_one (List.mem_singleton_self _)

theorem swapRange_calls {g c n a b k : Nat} {f : Nat → Turn} (hab : a + k ≤ b) (hb : b + k ≤ n) (hn : n ≤ 1000000) :
    CH Try.prog w0 116 #[.slice (some ⟨g, 0, none⟩) n c, .int .i64 a, .int .i64 b, .int .i64 k, .func (.func 110) #[] #[]] (own 172 3 (.slice (some ⟨g, 0, none⟩) n c) n (rowF tc n f) :: R) fun v R' =>
      R' = own 172 3 (.slice (some ⟨g, 0, none⟩) n c) n (rowF tc n (swR f a b k)) :: R ∧ PmF n f (swR f a b k) := by
  refine CH_of Try.func116 rfl fun K kn kr kp => ?_
  simp only [Try.ntmps116, List.size_toArray, List.length_cons, List.length_nil, Nat.reduceAdd, Nat.reduceSub, Array.replicate_succ, Array.replicate_zero, List.push_toArray, List.append_toArray, List.nil_append, List.cons_append]
  refine HC_seq fun N1 hN1 => ?_
  refine HC_region ?_
  refine' HL_q rfl rfl (QV_assign Ev.const) ?_
  simp only [zS0, zS1, zTn, Nat.reduceAdd, Nat.reduceMul, Int.reduceToNat, zG0, zG1, zG2, zCa, zCi, zCb, zCs, zCf, zCn, zCt, zCm, zCp]
  refine HL_nil ?_
  refine hN1 _ _ ?_
  try clear hN1 N1
  refine HC_block ?_
  refine HC_loop [10] [false, false, false, false, false, false, false, false, false, false, false, true, true, true, true, true, true, true, true, true, true, true, true, true, true, true, true, true, true, true, true, true, true, true, true, true, true, true] (fun gh vs RR => ∃ (i : Nat), vs = [(.int .i64 i)] ∧ gh = k - i ∧ i ≤ k ∧ PmF n f (swR f a b i) ∧ RR = own 172 3 (.slice (some ⟨g, 0, none⟩) n c) n (rowF tc n (swR f a b i)) :: R) ?start ?round
  case start =>
    simp only [List.map_cons, List.map_nil, List.getD_cons_zero, List.getD_cons_succ]
    refine' ⟨_, _, ?le, 0, rfl, rfl, (Nat.zero_le _), (by rw [swR_zero]; exact PmF.refl), (by rw [swR_zero])⟩
    case le => (first | with_reducible exact Le.refl | (refine Le.of ?_; (repeat (first | with_reducible exact Sp.refl | with_reducible exact Sp.nil | (apply Sp.pick; focus ((repeat (first | with_reducible exact Rm.head | with_reducible apply Rm.tail)); done)) | with_reducible refine Sp.drop ?_))))
  case round =>
    rintro _ _ _ u ⟨i, rfl, rfl, hi, hp, rfl⟩ NL0 hL0
    simp only [setL, fill, List.set_cons_zero, List.set_cons_succ, Nat.reduceAdd]
    refine HC_seq fun N2 hN2 => ?_
    refine HC_seq fun N3 hN3 => ?_
    refine HC_region ?_
    refine' HL_q rfl rfl (QV_move (Ev.tmp rfl)) ?_
    simp only [zS0, zS1, zTn, Nat.reduceAdd, Nat.reduceMul, Int.reduceToNat, zG0, zG1, zG2, zCa, zCi, zCb, zCs, zCf, zCn, zCt, zCm, zCp]
    refine' HL_q rfl rfl (QV_move (Ev.tmp rfl)) ?_
    simp only [zS0, zS1, zTn, Nat.reduceAdd, Nat.reduceMul, Int.reduceToNat, zG0, zG1, zG2, zCa, zCi, zCb, zCs, zCf, zCn, zCt, zCm, zCp]
    first
      | (refine' HL_q rfl rfl (QV_lss_y (Ev.tmp rfl) (Ev.tmp rfl) ?hb) ?_; case hb => omega)
      | (refine' HL_q rfl rfl (QV_lss_n (Ev.tmp rfl) (Ev.tmp rfl) ?hb) ?_; case hb => omega)
      | (refine' HL_q rfl rfl (QV_lss (Ev.tmp rfl) (Ev.tmp rfl)) ?_)
    simp only [zS0, zS1, zTn, Nat.reduceAdd, Nat.reduceMul, Int.reduceToNat, zG0, zG1, zG2, zCa, zCi, zCb, zCs, zCf, zCn, zCt, zCm, zCp]
    refine HL_nil ?_
    refine hN3 _ _ ?_
    try clear hN3 N3
    refine HC_cond rfl (fun hc => ?_) (fun hc => ?_)
    · refine HC_skip ?_
      refine hN2 _ _ ?_
      try clear hN2 N2
      have hc' : i < k := by simpa using hc
      have hsl := tsl (w0 := w0) (g := g) (c := c) (n := n) (f := swR f a b i)
      have e1 : (a : Int) + (i : Int) = ((a + i : Nat) : Int) := by simp
      have e2 : (b : Int) + (i : Int) = ((b + i : Nat) : Int) := by simp
      have g1 := tget (f := swR f a b i) (show a + i < n by omega)
      have g2 := tget (f := swR f a b i) (show b + i < n by omega)
      refine HC_seq fun N4 hN4 => ?_
      refine HC_block ?_
      have hpm : PmF n f (swR f a b (i + 1)) := by
        rw [← swR_succ f (show a + i < b by omega)]
        exact hp.trans (PmF_sw (by omega) (by omega))
      refine HC_draw 21 [] _ mixed rfl ?_
      refine' DA_take (i := 0) rfl (by kernel_rfl) (fun _ _ _ _ h => (kp _ _ _ h).elim) rfl (QV_move (Ev.tmp rfl)) ?_
      simp only [zS0, zS1, zTn, Nat.reduceAdd, Nat.reduceMul, Int.reduceToNat, zG0, zG1, zG2, zCa, zCi, zCb, zCs, zCf, zCn, zCt, zCm, zCp, e1, e2]
      refine' DA_take (i := 1) rfl (by kernel_rfl) (fun _ _ _ _ h => (kp _ _ _ h).elim) rfl (QV_move (Ev.tmp rfl)) ?_
      simp only [zS0, zS1, zTn, Nat.reduceAdd, Nat.reduceMul, Int.reduceToNat, zG0, zG1, zG2, zCa, zCi, zCb, zCs, zCf, zCn, zCt, zCm, zCp, e1, e2]
      refine' DA_take (i := 2) rfl (by kernel_rfl) (fun _ _ _ _ h => (kp _ _ _ h).elim) rfl (QV_move (Ev.tmp rfl)) ?_
      simp only [zS0, zS1, zTn, Nat.reduceAdd, Nat.reduceMul, Int.reduceToNat, zG0, zG1, zG2, zCa, zCi, zCb, zCs, zCf, zCn, zCt, zCm, zCp, e1, e2]
      refine' DA_take (i := 3) rfl (by kernel_rfl) (fun _ _ _ _ h => (kp _ _ _ h).elim) rfl (QV_add (Ev.tmp rfl) (Ev.tmp rfl) ?hr) ?_
      case hr => first | exact IntWalk.i64_in _ (by omega) | exact IntWalk.u64_in _ (by omega) | exact IntWalk.u8_in _ (by omega) | exact IntWalk.u32_in _ (by omega) | exact IntWalk.i64_quo _ _ (by omega) | exact IntWalk.u64_quo _ _ (by omega) | rfl
      simp only [zS0, zS1, zTn, Nat.reduceAdd, Nat.reduceMul, Int.reduceToNat, zG0, zG1, zG2, zCa, zCi, zCb, zCs, zCf, zCn, zCt, zCm, zCp, e1, e2]
      refine' DA_move (i := 4) rfl (by kernel_rfl) (fun _ _ _ _ h => (kp _ _ _ h).elim) rfl (Ev.tmp rfl) ?_
      simp only [zS0, zS1, zTn, Nat.reduceAdd, Nat.reduceMul, Int.reduceToNat, zG0, zG1, zG2, zCa, zCi, zCb, zCs, zCf, zCn, zCt, zCm, zCp, e1, e2]
      refine' DA_move (i := 5) rfl (by kernel_rfl) (fun _ _ _ _ h => (kp _ _ _ h).elim) rfl (Ev.tmp rfl) ?_
      simp only [zS0, zS1, zTn, Nat.reduceAdd, Nat.reduceMul, Int.reduceToNat, zG0, zG1, zG2, zCa, zCi, zCb, zCs, zCf, zCn, zCt, zCm, zCp, e1, e2]
      refine' DA_move (i := 6) rfl (by kernel_rfl) (fun _ _ _ _ h => (kp _ _ _ h).elim) rfl (Ev.tmp rfl) ?_
      simp only [zS0, zS1, zTn, Nat.reduceAdd, Nat.reduceMul, Int.reduceToNat, zG0, zG1, zG2, zCa, zCi, zCb, zCs, zCf, zCn, zCt, zCm, zCp, e1, e2]
      refine' DA_pure (i := 7) rfl (by kernel_rfl) (fun _ _ _ _ h => (kp _ _ _ h).elim) rfl (fun w1 => QV_add (Ev.tmp rfl) (Ev.tmp rfl) ?hr) ?_
      case hr => first | exact IntWalk.i64_in _ (by omega) | exact IntWalk.u64_in _ (by omega) | exact IntWalk.u8_in _ (by omega) | exact IntWalk.u32_in _ (by omega) | exact IntWalk.i64_quo _ _ (by omega) | exact IntWalk.u64_quo _ _ (by omega) | rfl
      simp only [zS0, zS1, zTn, Nat.reduceAdd, Nat.reduceMul, Int.reduceToNat, zG0, zG1, zG2, zCa, zCi, zCb, zCs, zCf, zCn, zCt, zCm, zCp, e1, e2]
      refine' DA_take (i := 8) rfl (by kernel_rfl) (fun _ _ _ _ h => (kp _ _ _ h).elim) rfl (QV_move (Ev.tmp rfl)) ?_
      simp only [zS0, zS1, zTn, Nat.reduceAdd, Nat.reduceMul, Int.reduceToNat, zG0, zG1, zG2, zCa, zCi, zCb, zCs, zCf, zCn, zCt, zCm, zCp, e1, e2]
      refine' DA_take (i := 9) rfl (by kernel_rfl) (fun _ _ _ _ h => (kp _ _ _ h).elim) rfl (QV_move (Ev.tmp rfl)) ?_
      simp only [zS0, zS1, zTn, Nat.reduceAdd, Nat.reduceMul, Int.reduceToNat, zG0, zG1, zG2, zCa, zCi, zCb, zCs, zCf, zCn, zCt, zCm, zCp, e1, e2]
      refine' DA_take (i := 10) rfl (by kernel_rfl) (fun _ _ _ _ h => (kp _ _ _ h).elim) rfl (QV_move (Ev.tmp rfl)) ?_
      simp only [zS0, zS1, zTn, Nat.reduceAdd, Nat.reduceMul, Int.reduceToNat, zG0, zG1, zG2, zCa, zCi, zCb, zCs, zCf, zCn, zCt, zCm, zCp, e1, e2]
      refine' DA_take (i := 11) rfl (by kernel_rfl) (fun _ _ _ _ h => (kp _ _ _ h).elim) rfl (QV_add (Ev.tmp rfl) (Ev.tmp rfl) ?hr) ?_
      case hr => first | exact IntWalk.i64_in _ (by omega) | exact IntWalk.u64_in _ (by omega) | exact IntWalk.u8_in _ (by omega) | exact IntWalk.u32_in _ (by omega) | exact IntWalk.i64_quo _ _ (by omega) | exact IntWalk.u64_quo _ _ (by omega) | rfl
      simp only [zS0, zS1, zTn, Nat.reduceAdd, Nat.reduceMul, Int.reduceToNat, zG0, zG1, zG2, zCa, zCi, zCb, zCs, zCf, zCn, zCt, zCm, zCp, e1, e2]
      refine' DA_take (i := 12) rfl (by kernel_rfl) (fun _ _ _ _ h => (kp _ _ _ h).elim) rfl (QV_index (Ev.tmp rfl) (Ev.tmp rfl) (indexAt_slice Try.underlying183 Try.sizeOf172 ?h0 ?h1)) ?_
      case h0 => omega
      case h1 => omega
      simp only [zS0, zS1, zTn, Nat.reduceAdd, Nat.reduceMul, Int.reduceToNat, zG0, zG1, zG2, zCa, zCi, zCb, zCs, zCf, zCn, zCt, zCm, zCp, e1, e2]
      first
        | (refine' DA_take (i := 13) rfl (by kernel_rfl) (fun _ _ _ _ h => (kp _ _ _ h).elim) rfl (QV_loadA (Ev.tmp rfl) Try.isAgg172 Try.sizeOf172 ?hm ?hv ?hn) ?_; (case hm => (repeat (first | exact List.Mem.head _ | assumption | apply List.Mem.tail))); (case hv => (simp only [List.toList_toArray, List.take_succ_cons, List.take_zero, List.drop_succ_cons, List.drop_zero, List.take_nil]; rfl)); (case hn => rfl))
        | (refine' DA_take (i := 13) rfl (by kernel_rfl) (fun _ _ _ _ h => (kp _ _ _ h).elim) rfl (QV_loadRA (Ev.tmp rfl) ?hp Try.isAgg172 Try.sizeOf172 ?hs ?hv ?hn) ?_; (case hs => (first | assumption | (refine' Sl.sub (by assumption) ?_; (repeat (first | with_reducible exact List.Sublist.refl _ | with_reducible exact List.nil_sublist _ | with_reducible apply List.Sublist.cons_cons | with_reducible apply List.Sublist.cons))))); (case hp => rfl); (case hv => (first | (exact g1) | (exact g2) | fail)); (case hn => rfl))
        | (refine' DA_take (i := 13) rfl (by kernel_rfl) (fun _ _ _ _ h => (kp _ _ _ h).elim) rfl (QV_loadRA (Ev.tmp rfl) ?hp Try.isAgg172 Try.sizeOf172 ?hs ?hv ?hn) ?_; (case hs => (first | assumption | (refine' Sl.sub (by assumption) ?_; (repeat (first | with_reducible exact List.Sublist.refl _ | with_reducible exact List.nil_sublist _ | with_reducible apply List.Sublist.cons_cons | with_reducible apply List.Sublist.cons))))); (case hv => (first | (exact g1) | (exact g2) | rfl)); (case hp => (first | rfl | omega)); (case hn => rfl))
      simp only [zS0, zS1, zTn, Nat.reduceAdd, Nat.reduceMul, Int.reduceToNat, zG0, zG1, zG2, zCa, zCi, zCb, zCs, zCf, zCn, zCt, zCm, zCp, e1, e2]
      refine' DA_take (i := 14) rfl (by kernel_rfl) (fun _ _ _ _ h => (kp _ _ _ h).elim) rfl (QV_move (Ev.tmp rfl)) ?_
      simp only [zS0, zS1, zTn, Nat.reduceAdd, Nat.reduceMul, Int.reduceToNat, zG0, zG1, zG2, zCa, zCi, zCb, zCs, zCf, zCn, zCt, zCm, zCp, e1, e2]
      refine' DA_take (i := 15) rfl (by kernel_rfl) (fun _ _ _ _ h => (kp _ _ _ h).elim) rfl (QV_move (Ev.tmp rfl)) ?_
      simp only [zS0, zS1, zTn, Nat.reduceAdd, Nat.reduceMul, Int.reduceToNat, zG0, zG1, zG2, zCa, zCi, zCb, zCs, zCf, zCn, zCt, zCm, zCp, e1, e2]
      refine' DA_take (i := 16) rfl (by kernel_rfl) (fun _ _ _ _ h => (kp _ _ _ h).elim) rfl (QV_move (Ev.tmp rfl)) ?_
      simp only [zS0, zS1, zTn, Nat.reduceAdd, Nat.reduceMul, Int.reduceToNat, zG0, zG1, zG2, zCa, zCi, zCb, zCs, zCf, zCn, zCt, zCm, zCp, e1, e2]
      refine' DA_take (i := 17) rfl (by kernel_rfl) (fun _ _ _ _ h => (kp _ _ _ h).elim) rfl (QV_add (Ev.tmp rfl) (Ev.tmp rfl) ?hr) ?_
      case hr => first | exact IntWalk.i64_in _ (by omega) | exact IntWalk.u64_in _ (by omega) | exact IntWalk.u8_in _ (by omega) | exact IntWalk.u32_in _ (by omega) | exact IntWalk.i64_quo _ _ (by omega) | exact IntWalk.u64_quo _ _ (by omega) | rfl
      simp only [zS0, zS1, zTn, Nat.reduceAdd, Nat.reduceMul, Int.reduceToNat, zG0, zG1, zG2, zCa, zCi, zCb, zCs, zCf, zCn, zCt, zCm, zCp, e1, e2]
      refine' DA_take (i := 18) rfl (by kernel_rfl) (fun _ _ _ _ h => (kp _ _ _ h).elim) rfl (QV_index (Ev.tmp rfl) (Ev.tmp rfl) (indexAt_slice Try.underlying183 Try.sizeOf172 ?h0 ?h1)) ?_
      case h0 => omega
      case h1 => omega
      simp only [zS0, zS1, zTn, Nat.reduceAdd, Nat.reduceMul, Int.reduceToNat, zG0, zG1, zG2, zCa, zCi, zCb, zCs, zCf, zCn, zCt, zCm, zCp, e1, e2]
      first
        | (refine' DA_take (i := 19) rfl (by kernel_rfl) (fun _ _ _ _ h => (kp _ _ _ h).elim) rfl (QV_loadA (Ev.tmp rfl) Try.isAgg172 Try.sizeOf172 ?hm ?hv ?hn) ?_; (case hm => (repeat (first | exact List.Mem.head _ | assumption | apply List.Mem.tail))); (case hv => (simp only [List.toList_toArray, List.take_succ_cons, List.take_zero, List.drop_succ_cons, List.drop_zero, List.take_nil]; rfl)); (case hn => rfl))
        | (refine' DA_take (i := 19) rfl (by kernel_rfl) (fun _ _ _ _ h => (kp _ _ _ h).elim) rfl (QV_loadRA (Ev.tmp rfl) ?hp Try.isAgg172 Try.sizeOf172 ?hs ?hv ?hn) ?_; (case hs => (first | assumption | (refine' Sl.sub (by assumption) ?_; (repeat (first | with_reducible exact List.Sublist.refl _ | with_reducible exact List.nil_sublist _ | with_reducible apply List.Sublist.cons_cons | with_reducible apply List.Sublist.cons))))); (case hp => rfl); (case hv => (first | (exact g1) | (exact g2) | fail)); (case hn => rfl))
        | (refine' DA_take (i := 19) rfl (by kernel_rfl) (fun _ _ _ _ h => (kp _ _ _ h).elim) rfl (QV_loadRA (Ev.tmp rfl) ?hp Try.isAgg172 Try.sizeOf172 ?hs ?hv ?hn) ?_; (case hs => (first | assumption | (refine' Sl.sub (by assumption) ?_; (repeat (first | with_reducible exact List.Sublist.refl _ | with_reducible exact List.nil_sublist _ | with_reducible apply List.Sublist.cons_cons | with_reducible apply List.Sublist.cons))))); (case hv => (first | (exact g1) | (exact g2) | rfl)); (case hp => (first | rfl | omega)); (case hn => rfl))
      simp only [zS0, zS1, zTn, Nat.reduceAdd, Nat.reduceMul, Int.reduceToNat, zG0, zG1, zG2, zCa, zCi, zCb, zCs, zCf, zCn, zCt, zCm, zCp, e1, e2]
      refine' DA_take (i := 20) rfl (by kernel_rfl) (fun _ _ _ _ h => (kp _ _ _ h).elim) rfl (QV_index (Ev.tmp rfl) (Ev.tmp rfl) (indexAt_slice Try.underlying183 Try.sizeOf172 ?h0 ?h1)) ?_
      case h0 => omega
      case h1 => omega
      simp only [zS0, zS1, zTn, Nat.reduceAdd, Nat.reduceMul, Int.reduceToNat, zG0, zG1, zG2, zCa, zCi, zCb, zCs, zCf, zCn, zCt, zCm, zCp, e1, e2]
      refine DA_cut (q1 := 24) (by kernel_rfl) rfl ?_
      try simp only [List.nil_append, List.cons_append]
      refine DA_one (i := 21) (by kernel_rfl) ?_
      refine' DB_z (i := 21) rfl rfl rfl (SO_storeF (enc := tc) (i := a + i) (swR f a b i (b + i)) ?hx ?hy Try.sizeOf172 ?hvs tc_len tc_one ?hi ?hm) ?_
      case hx => exact Ev.tmp rfl
      case hy => exact Ev.tmp rfl
      case hvs => rfl
      case hm => (repeat (first | with_reducible exact Rep.head | apply Rep.tail))
      case hi => omega
      rintro _ _ ⟨rfl, rfl⟩
      simp only [zS0, zS1, zTn, Nat.reduceAdd, Nat.reduceMul, Int.reduceToNat, zG0, zG1, zG2, zCa, zCi, zCb, zCs, zCf, zCn, zCt, zCm, zCp, e1, e2]
      refine DA_one (i := 22) (by kernel_rfl) ?_
      refine' DB_zq (i := 22) rfl rfl rfl (QV_index (Ev.tmp rfl) (Ev.tmp rfl) (indexAt_slice Try.underlying183 Try.sizeOf172 ?h0 ?h1)) ?_
      case h0 => omega
      case h1 => omega
      simp only [zS0, zS1, zTn, Nat.reduceAdd, Nat.reduceMul, Int.reduceToNat, zG0, zG1, zG2, zCa, zCi, zCb, zCs, zCf, zCn, zCt, zCm, zCp, e1, e2]
      refine DA_one (i := 23) (by kernel_rfl) ?_
      refine' DB_z (i := 23) rfl rfl rfl (SO_storeF (enc := tc) (i := b + i) (swR f a b i (a + i)) ?hx ?hy Try.sizeOf172 ?hvs tc_len tc_one ?hi ?hm) ?_
      case hx => exact Ev.tmp rfl
      case hy => exact Ev.tmp rfl
      case hvs => rfl
      case hm => (repeat (first | with_reducible exact Rep.head | apply Rep.tail))
      case hi => omega
      rintro _ _ ⟨rfl, rfl⟩
      simp only [zS0, zS1, zTn, Nat.reduceAdd, Nat.reduceMul, Int.reduceToNat, zG0, zG1, zG2, zCa, zCi, zCb, zCs, zCf, zCn, zCt, zCm, zCp, e1, e2]
      refine DA_end (by kernel_rfl) ?_
      try simp only [List.nil_append, List.cons_append]
      simp only [blockK]
      rw [swR_sw f (show a + i < b by omega)]
      refine hN4 _ _ ?_
      try clear hN4 N4
      refine HC_region ?_
      refine' HL_q rfl rfl (QV_move (Ev.tmp rfl)) ?_
      simp only [zS0, zS1, zTn, Nat.reduceAdd, Nat.reduceMul, Int.reduceToNat, zG0, zG1, zG2, zCa, zCi, zCb, zCs, zCf, zCn, zCt, zCm, zCp, e1, e2]
      refine' HL_q rfl rfl (QV_add (Ev.tmp rfl) Ev.const ?hr) ?_
      case hr => first | exact IntWalk.i64_in _ (by omega) | exact IntWalk.u64_in _ (by omega) | exact IntWalk.u8_in _ (by omega) | exact IntWalk.u32_in _ (by omega) | exact IntWalk.i64_quo _ _ (by omega) | exact IntWalk.u64_quo _ _ (by omega) | rfl
      simp only [zS0, zS1, zTn, Nat.reduceAdd, Nat.reduceMul, Int.reduceToNat, zG0, zG1, zG2, zCa, zCi, zCb, zCs, zCf, zCn, zCt, zCm, zCp, e1, e2]
      refine' HL_q rfl rfl (QV_assign (Ev.tmp rfl)) ?_
      simp only [zS0, zS1, zTn, Nat.reduceAdd, Nat.reduceMul, Int.reduceToNat, zG0, zG1, zG2, zCa, zCi, zCb, zCs, zCf, zCn, zCt, zCm, zCp, e1, e2]
      refine HL_nil ?_
      simp only [thenK]
      refine' againL hL0 (Gets.cons rfl Gets.nil) ?lt ?ag1 ?le ⟨i + 1, rfl, rfl, by omega, hpm, rfl⟩
      case ag1 => (simp only [setL, List.set_cons_zero, List.set_cons_succ]; exact (Ag.keep (Ag.keep (Ag.keep (Ag.keep (Ag.keep (Ag.keep (Ag.keep (Ag.keep (Ag.keep (Ag.keep (Ag.keep (Ag.any (Ag.any (Ag.any (Ag.any (Ag.any (Ag.any (Ag.any (Ag.any (Ag.any (Ag.any (Ag.any (Ag.any (Ag.any (Ag.any (Ag.any (Ag.any (Ag.any (Ag.any (Ag.any (Ag.any (Ag.any (Ag.any (Ag.any (Ag.any (Ag.any (Ag.any (Ag.any Ag.nil)))))))))))))))))))))))))))))))))))))))
      case le => (first | with_reducible exact Le.refl | (refine Le.of ?_; (repeat (first | with_reducible exact Sp.refl | with_reducible exact Sp.nil | (apply Sp.pick; focus ((repeat (first | with_reducible exact Rm.head | with_reducible apply Rm.tail)); done)) | with_reducible refine Sp.drop ?_))))
      case lt => omega
    · refine HC_exit ?_
      simp only [thenK, blockK, reduceIte]
      have hc' : i = k := by simp at hc; omega
      subst hc'
      try simp only [thenK, blockK, reduceIte]
      refine kn _ _ ?_
      refine' Lv_none rfl ?post ?le
      case post => exact ⟨rfl, hp⟩
      case le => (first | with_reducible exact Le.refl | (refine Le.of ?_; (repeat (first | with_reducible exact Sp.refl | with_reducible exact Sp.nil | (apply Sp.pick; focus ((repeat (first | with_reducible exact Rm.head | with_reducible apply Rm.tail)); done)) | with_reducible refine Sp.drop ?_))))
end Go.Proofs.Ytcilfoicoambhaa
