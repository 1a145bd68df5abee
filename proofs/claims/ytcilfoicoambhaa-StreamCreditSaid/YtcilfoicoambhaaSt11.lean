import Derived.Test.YtcilfoicoambhaaSt10
set_option linter.unusedVariables false
set_option linter.unusedSimpArgs false
set_option maxRecDepth 20000
set_option maxHeartbeats 1000000
namespace Go.Proofs.Ytcilfoicoambhaa
open Go Go.Hw Go.RowKit

variable {w0 : World} {R : List Asn}

theorem with_none {A : Option Addr} {c : Nat} {l : List Run} {f t : Int} (hs : Sl w0 R 2 A l.length (runC l)) (hl : Small l) (hlen : l.length ≤ 1000000) (hf : 0 ≤ f) (hf' : f ≤ 4000000000000000000) (ht : 0 ≤ t) (hft : t ≤ f) :
    CH Try.prog w0 101 #[.slice A l.length c, .agg #[.int .i64 f, .int .i64 t]] R fun v R' => v = .slice A l.length c ∧ R' = R :=
  CH_mono (with_calls hs hl hlen hf hf' ht (by omega)) (by
    rintro v R' (⟨_, h, h'⟩ | ⟨h, _⟩)
    · exact ⟨h, h'⟩
    · omega)

theorem gone_calls {b : Nat} {id credit fresh e : Int} {bv lv cv : Value} {last reset fin : Bool} {lost came : List Run} {f t : Int}
    (hc : Small came) (hnc : came.length ≤ 1000000) (hf : 0 ≤ f) (hf' : f ≤ 4000000000000000000) (ht : 0 ≤ t) (ht' : t ≤ 4000000000000000000)
    (h1 : ∀ k, k ≤ came.length → Small (goneL (came.take k) (f, t)) ∧ (goneL (came.take k) (f, t)).length ≤ 1000000)
    (h2 : ∀ k, k ≤ (goneL came (f, t)).length → Small (wiAll lost ((goneL came (f, t)).take k)) ∧ (wiAll lost ((goneL came (f, t)).take k)).length ≤ 1000000) :
    CH Try.prog w0 77 #[.pointer (some ⟨b, 0, none⟩), .agg #[.int .i64 f, .int .i64 t], .bool fin] (pt b (.cells (sndC id credit bv fresh lv cv last e reset) 105 (0, 0)) :: own 107 2 lv lost.length (runC lost) :: own 107 2 cv came.length (runC came) :: R) fun v R' => ∃ lv',
      R' = pt b (.cells (sndC id credit bv fresh lv' cv last (if fin && e != 3 then 2 else e) reset) 105 (0, 0)) :: own 107 2 lv' (wiAll lost (goneL came (f, t))).length (runC (wiAll lost (goneL came (f, t)))) :: own 107 2 cv came.length (runC came) :: R := by
  refine CH_fact (fun w hw => own_shape hw (List.mem_cons_of_mem _ (List.mem_cons_of_mem _ (List.mem_cons_self ..)))) ?_
  rintro ⟨A2, c2, rfl, hc2, hc2', ha2⟩
  have hsc : ∀ R, own 107 2 (.slice A2 came.length c2) came.length (runC came) ∈ R → Sl w0 R 2 A2 came.length (runC came) := fun R hR => Sl.of_own hR (runC_length _) (runC_one _) ha2
  unfold sndC
  refine CH_of Try.func77 rfl fun K kn kr kp => ?_
  simp only [Try.ntmps77, List.size_toArray, List.length_cons, List.length_nil, Nat.reduceAdd, Nat.reduceSub, Array.replicate_succ, Array.replicate_zero, List.push_toArray, List.append_toArray, List.nil_append, List.cons_append]
  refine HC_seq fun N1 hN1 => ?_
  refine HC_region ?_
  refine' HL_s rfl rfl (SO_box (Ev.tmp rfl) rfl) ?_
  rintro _ _ ⟨g4, rfl, rfl⟩
  simp only [List.set_cons_zero, List.set_cons_succ, Int.toNat_natCast, Nat.reduceAdd, Nat.reduceMul, Int.reduceToNat, List.getElem_toArray, List.getElem_cons_zero, List.getElem_cons_succ, cells_agg, cells_int, cells_bool, cells_slice, cells_ptr]
  refine HL_nil ?_
  refine hN1 _ _ ?_
  try clear hN1 N1
  refine HC_seq fun N2 hN2 => ?_
  refine HC_region ?_
  first
    | (refine' HL_q rfl rfl (QV_loadA (Ev.tmp rfl) Try.isAgg107 Try.sizeOf107 ?hm ?hv ?hn) ?_; (case hm => (repeat (first | exact List.Mem.head _ | assumption | exact List.mem_of_getElem? (by assumption) | exact mem_set_self (by assumption) | apply List.Mem.tail))); (case hv => (simp only [List.toList_toArray, List.take_succ_cons, List.take_zero, List.drop_succ_cons, List.drop_zero, List.take_nil]; rfl)); (case hn => rfl))
    | (refine' HL_q rfl rfl (QV_loadRA (Ev.tmp rfl) ?hp Try.isAgg107 Try.sizeOf107 ?hs ?hv ?hn) ?_; (case hs => (first | assumption | (refine' Sl.sub (by assumption) ?_; (repeat (first | with_reducible exact List.Sublist.refl _ | with_reducible apply List.Sublist.cons_cons | with_reducible apply List.Sublist.cons))))); (case hv => (first  | rfl)); (case hp => (first | rfl | omega)); (case hn => rfl))
  simp only [List.set_cons_zero, List.set_cons_succ, Int.toNat_natCast, Nat.reduceAdd, Nat.reduceMul, Int.reduceToNat, List.getElem_toArray, List.getElem_cons_zero, List.getElem_cons_succ, cells_agg, cells_int, cells_bool, cells_slice, cells_ptr]
  refine' HL_s rfl rfl (SO_buildSlice (EvL.cons (Ev.tmp rfl) EvL.nil) ?hr) ?_
  case hr => intro w; first | (go_simp; done) | (go_simp; rfl) | (simp [Instr.buildSlice, run_underlying Try.underlying103, Try.sizeOf107, Try.zeroValue107, Instr.fill, newRow, Result.andThen]; rfl)
  rintro _ _ ⟨g12, rfl, rfl⟩
  simp only [List.set_cons_zero, List.set_cons_succ, Int.toNat_natCast, Nat.reduceAdd, Nat.reduceMul, Int.reduceToNat, List.getElem_toArray, List.getElem_cons_zero, List.getElem_cons_succ, cells_agg, cells_int, cells_bool, cells_slice, cells_ptr]
  refine' HL_q rfl rfl (QV_assign (Ev.tmp rfl)) ?_
  simp only [List.set_cons_zero, List.set_cons_succ, Int.toNat_natCast, Nat.reduceAdd, Nat.reduceMul, Int.reduceToNat, List.getElem_toArray, List.getElem_cons_zero, List.getElem_cons_succ, cells_agg, cells_int, cells_bool, cells_slice, cells_ptr]
  refine HL_nil ?_
  refine hN2 _ _ ?_
  try clear hN2 N2
  refine HC_turn (A' := own 107 2 (.slice (some ⟨g12, 0, none⟩) 1 1) 1 [.int .i64 f, .int .i64 t]) Rep.head (own_of_pt (by rfl) (by simp [maxLen])) own_of_pt_fp ?_
  refine HC_seq fun N3 hN3 => ?_
  refine HC_seq fun N4 hN4 => ?_
  refine HC_region ?_
  refine' HL_q rfl rfl (QV_move (Ev.tmp rfl)) ?_
  simp only [List.set_cons_zero, List.set_cons_succ, Int.toNat_natCast, Nat.reduceAdd, Nat.reduceMul, Int.reduceToNat, List.getElem_toArray, List.getElem_cons_zero, List.getElem_cons_succ, cells_agg, cells_int, cells_bool, cells_slice, cells_ptr]
  refine' HL_q rfl rfl (QV_nil (Ev.tmp rfl)) ?_
  simp only [List.set_cons_zero, List.set_cons_succ, Int.toNat_natCast, Nat.reduceAdd, Nat.reduceMul, Int.reduceToNat, List.getElem_toArray, List.getElem_cons_zero, List.getElem_cons_succ, cells_agg, cells_int, cells_bool, cells_slice, cells_ptr]
  refine' HL_q rfl rfl (QV_field (Ev.tmp rfl) (fld105_6 _ _)) ?_
  simp only [List.set_cons_zero, List.set_cons_succ, Int.toNat_natCast, Nat.reduceAdd, Nat.reduceMul, Int.reduceToNat, List.getElem_toArray, List.getElem_cons_zero, List.getElem_cons_succ, cells_agg, cells_int, cells_bool, cells_slice, cells_ptr]
  first
    | (refine' HL_q rfl rfl (QV_load1 (Ev.tmp rfl) Try.isAgg103 ?hm ?hv) ?_; (case hm => (repeat (first | exact List.Mem.head _ | assumption | exact List.mem_of_getElem? (by assumption) | exact mem_set_self (by assumption) | apply List.Mem.tail))); (case hv => (first | rfl | assumption)))
    | (refine' HL_q rfl rfl (QV_loadR (Ev.tmp rfl) ?hp Try.isAgg103 ?hs ?hv) ?_; (case hs => (first | assumption | (refine' Sl.sub (by assumption) ?_; (repeat (first | with_reducible exact List.Sublist.refl _ | with_reducible apply List.Sublist.cons_cons | with_reducible apply List.Sublist.cons))))); (case hv => (first  | rfl | assumption)); (case hp => (first | rfl | omega)))
  simp only [List.set_cons_zero, List.set_cons_succ, Int.toNat_natCast, Nat.reduceAdd, Nat.reduceMul, Int.reduceToNat, List.getElem_toArray, List.getElem_cons_zero, List.getElem_cons_succ, cells_agg, cells_int, cells_bool, cells_slice, cells_ptr]
  refine' HL_q rfl rfl (QV_len (Ev.tmp rfl) Try.underlying103) ?_
  simp only [List.set_cons_zero, List.set_cons_succ, Int.toNat_natCast, Nat.reduceAdd, Nat.reduceMul, Int.reduceToNat, List.getElem_toArray, List.getElem_cons_zero, List.getElem_cons_succ, cells_agg, cells_int, cells_bool, cells_slice, cells_ptr]
  refine' HL_q rfl rfl (QV_move Ev.const) ?_
  simp only [List.set_cons_zero, List.set_cons_succ, Int.toNat_natCast, Nat.reduceAdd, Nat.reduceMul, Int.reduceToNat, List.getElem_toArray, List.getElem_cons_zero, List.getElem_cons_succ, cells_agg, cells_int, cells_bool, cells_slice, cells_ptr]
  refine HL_nil ?_
  refine hN4 _ _ ?_
  try clear hN4 N4
  refine HC_block ?_
  refine HC_loop [6, 18] [false, false, false, false, false, false, false, false, true, false, false, false, false, false, false, false, false, false, false, true, true, true, true, true, true, true] (fun gh vs RR => ∃ (i : Nat) (v : Value) (n : Nat) (cs : List Value), vs = [v, (.int .i64 i)] ∧ gh = came.length - i ∧ i ≤ came.length ∧ n = (goneL (came.take i) (f, t)).length ∧ cs = runC (goneL (came.take i) (f, t)) ∧ RR = own 107 2 v n cs :: pt g4 (.cells #[.int .i64 f, .int .i64 t] 107 (0, 0)) :: pt b (.cells #[.int .i64 1, .int .u64 id, .int .u64 credit, bv, .int .i64 fresh, lv, .slice A2 came.length c2, .bool last, .int .i64 e, .bool reset] 105 (0, 0)) :: own 107 2 lv lost.length (runC lost) :: own 107 2 (.slice A2 came.length c2) came.length (runC came) :: R) ?start ?round
  case start =>
    simp only [List.map_cons, List.map_nil, List.getD_cons_zero, List.getD_cons_succ]
    refine' ⟨_, _, ?le, 0, _, 1, [.int .i64 f, .int .i64 t], rfl, rfl, Nat.zero_le _, rfl, rfl, rfl⟩
    case le => (first | with_reducible exact Le.refl | (refine Le.of ?_; (repeat (first | with_reducible exact Sp.refl | with_reducible exact Sp.nil | (apply Sp.pick; focus ((repeat (first | with_reducible exact Rm.head | with_reducible apply Rm.tail)); done)) | with_reducible refine Sp.drop ?_))))
  case round =>
    rintro _ _ _ u ⟨i, v, n, cs, rfl, rfl, hi, hn, hcs, rfl⟩ NL2 hL2
    simp only [setL, fill, List.set_cons_zero, List.set_cons_succ, Nat.zero_add, Nat.reduceAdd]
    subst hn hcs
    obtain ⟨hsm, hlen⟩ := h1 i hi
    refine HC_fact (fun w hw => own_shape hw (List.mem_cons_self ..)) ?_
    rintro ⟨A6, c6, rfl, hc6, hc6', ha6⟩
    have hs6 : ∀ R, own 107 2 (.slice A6 (goneL (came.take i) (f, t)).length c6) (goneL (came.take i) (f, t)).length (runC (goneL (came.take i) (f, t))) ∈ R → Sl w0 R 2 A6 (goneL (came.take i) (f, t)).length (runC (goneL (came.take i) (f, t))) := fun R hR => Sl.of_own hR (runC_length _) (runC_one _) ha6
    refine HC_seq fun N5 hN5 => ?_
    refine HC_region ?_
    first
      | (refine' HL_q rfl rfl (QV_lss_y (Ev.tmp rfl) (Ev.tmp rfl) ?hb) ?_; case hb => omega)
      | (refine' HL_q rfl rfl (QV_lss_n (Ev.tmp rfl) (Ev.tmp rfl) ?hb) ?_; case hb => omega)
      | (refine' HL_q rfl rfl (QV_lss (Ev.tmp rfl) (Ev.tmp rfl)) ?_)
    simp only [List.set_cons_zero, List.set_cons_succ, Int.toNat_natCast, Nat.reduceAdd, Nat.reduceMul, Int.reduceToNat, List.getElem_toArray, List.getElem_cons_zero, List.getElem_cons_succ, cells_agg, cells_int, cells_bool, cells_slice, cells_ptr]
    refine HL_nil ?_
    refine hN5 _ _ ?_
    try clear hN5 N5
    refine HC_seq fun N6 hN6 => ?_
    refine HC_cond rfl (fun hcd => ?_) (fun hcd => ?_)
    · refine HC_skip ?_
      refine hN6 _ _ ?_
      try clear hN6 N6
      have hi' : i < came.length := by simpa using hcd
      obtain ⟨ga, rfl⟩ := ha2 (by omega)
      have hx := runC_drop2 came i hi'
      obtain ⟨b1, b2, b3, b4⟩ := hc.at i hi'
      have hsn := goneL_snoc came (f, t) i hi'
      generalize ea : (came[i]).1 = x at *
      generalize eb : (came[i]).2 = y at *
      refine HC_seq fun N7 hN7 => ?_
      refine HC_block ?_
      refine HC_seq fun N8 hN8 => ?_
      refine HC_region ?_
      refine' HL_q rfl rfl (QV_index (Ev.tmp rfl) (Ev.tmp rfl) (indexAt_slice Try.underlying103 Try.sizeOf107 ?h0 ?h1)) ?_
      case h0 => omega
      case h1 => omega
      simp only [List.set_cons_zero, List.set_cons_succ, Int.toNat_natCast, Nat.reduceAdd, Nat.reduceMul, Int.reduceToNat, List.getElem_toArray, List.getElem_cons_zero, List.getElem_cons_succ, cells_agg, cells_int, cells_bool, cells_slice, cells_ptr]
      -- operation 1
      refine' HL_q rfl rfl (QV_loadRA (Ev.tmp rfl) ?hp Try.isAgg107 Try.sizeOf107 (hsc _ (by simp)) hx rfl) ?_
      case hp => first | rfl | omega
      simp only [List.set_cons_zero, List.set_cons_succ, Int.toNat_natCast, Nat.reduceAdd, Nat.reduceMul, Int.reduceToNat, List.getElem_toArray, List.getElem_cons_zero, List.getElem_cons_succ, cells_agg, cells_int, cells_bool, cells_slice, cells_ptr]
      refine' HL_s rfl rfl (SO_alloc Try.zeroValue107 rfl) ?_
      rintro _ _ ⟨g8, rfl, rfl⟩
      simp only [List.set_cons_zero, List.set_cons_succ, Int.toNat_natCast, Nat.reduceAdd, Nat.reduceMul, Int.reduceToNat, List.getElem_toArray, List.getElem_cons_zero, List.getElem_cons_succ, cells_agg, cells_int, cells_bool, cells_slice, cells_ptr]
      refine' HL_s rfl rfl (SO_store (Ev.tmp rfl) (Ev.tmp rfl) Try.sizeOf107 ?hvs ?hn ?h1 ?hm ?hfit) ?_
      case hvs => rfl
      case hn => rfl
      case h1 => rfl
      case hm => (repeat (first | with_reducible exact Upd.head | exact Upd.at_ (by assumption) | exact Upd.set (by assumption) | apply Upd.tail))
      case hfit => simp
      rintro _ _ ⟨rfl, rfl⟩
      simp only [spl, List.set_cons_zero, List.set_cons_succ, List.toList_toArray, List.take_succ_cons, List.take_zero, List.drop_succ_cons, List.drop_zero, List.nil_append, List.cons_append, List.append_nil, List.length_cons, List.length_nil, Nat.zero_add, Nat.reduceAdd, List.take_nil, List.drop_nil]
      refine HL_nil ?_
      refine hN8 _ _ ?_
      try clear hN8 N8
      refine HC_region ?_
      refine' HL_q rfl rfl (QV_move (Ev.tmp rfl)) ?_
      simp only [List.set_cons_zero, List.set_cons_succ, Int.toNat_natCast, Nat.reduceAdd, Nat.reduceMul, Int.reduceToNat, List.getElem_toArray, List.getElem_cons_zero, List.getElem_cons_succ, cells_agg, cells_int, cells_bool, cells_slice, cells_ptr]
      first
        | (refine' HL_q rfl rfl (QV_loadA (Ev.tmp rfl) Try.isAgg107 Try.sizeOf107 ?hm ?hv ?hn) ?_; (case hm => (repeat (first | exact List.Mem.head _ | assumption | exact List.mem_of_getElem? (by assumption) | exact mem_set_self (by assumption) | apply List.Mem.tail))); (case hv => (simp only [List.toList_toArray, List.take_succ_cons, List.take_zero, List.drop_succ_cons, List.drop_zero, List.take_nil]; rfl)); (case hn => rfl))
        | (refine' HL_q rfl rfl (QV_loadRA (Ev.tmp rfl) ?hp Try.isAgg107 Try.sizeOf107 ?hs ?hv ?hn) ?_; (case hs => (first | assumption | (refine' Sl.sub (by assumption) ?_; (repeat (first | with_reducible exact List.Sublist.refl _ | with_reducible apply List.Sublist.cons_cons | with_reducible apply List.Sublist.cons))))); (case hv => (first  | rfl)); (case hp => (first | rfl | omega)); (case hn => rfl))
      simp only [List.set_cons_zero, List.set_cons_succ, Int.toNat_natCast, Nat.reduceAdd, Nat.reduceMul, Int.reduceToNat, List.getElem_toArray, List.getElem_cons_zero, List.getElem_cons_succ, cells_agg, cells_int, cells_bool, cells_slice, cells_ptr]
      -- operation 2
      refine' HL_call rfl en52 (call_fn (EvL.cons (Ev.tmp rfl) (EvL.cons (Ev.tmp rfl) EvL.nil)).evs) ((without_calls (hs6 _ (by simp)) hsm hlen (by omega) (by omega) (by omega) (by omega))) ?_
      rintro v24 _ rfl
      simp only [List.set_cons_zero, List.set_cons_succ, Int.toNat_natCast, Nat.reduceAdd, Nat.reduceMul, Int.reduceToNat, List.getElem_toArray, List.getElem_cons_zero, List.getElem_cons_succ, cells_agg, cells_int, cells_bool, cells_slice, cells_ptr]
      refine' HL_q rfl rfl (QV_assign (Ev.tmp rfl)) ?_
      simp only [List.set_cons_zero, List.set_cons_succ, Int.toNat_natCast, Nat.reduceAdd, Nat.reduceMul, Int.reduceToNat, List.getElem_toArray, List.getElem_cons_zero, List.getElem_cons_succ, cells_agg, cells_int, cells_bool, cells_slice, cells_ptr]
      refine HL_nil ?_
      refine hN7 _ _ ?_
      try clear hN7 N7
      refine HC_region ?_
      refine' HL_q rfl rfl (QV_add (Ev.tmp rfl) Ev.const ?hr) ?_
      case hr => first | exact IntWalk.i64_in _ (by omega) | exact IntWalk.u64_in _ (by omega) | exact IntWalk.u8_in _ (by omega) | exact IntWalk.u32_in _ (by omega) | exact IntWalk.i64_quo _ _ (by omega) | exact IntWalk.u64_quo _ _ (by omega) | rfl
      simp only [List.set_cons_zero, List.set_cons_succ, Int.toNat_natCast, Nat.reduceAdd, Nat.reduceMul, Int.reduceToNat, List.getElem_toArray, List.getElem_cons_zero, List.getElem_cons_succ, cells_agg, cells_int, cells_bool, cells_slice, cells_ptr]
      refine' HL_q rfl rfl (QV_move (Ev.tmp rfl)) ?_
      simp only [List.set_cons_zero, List.set_cons_succ, Int.toNat_natCast, Nat.reduceAdd, Nat.reduceMul, Int.reduceToNat, List.getElem_toArray, List.getElem_cons_zero, List.getElem_cons_succ, cells_agg, cells_int, cells_bool, cells_slice, cells_ptr]
      refine HL_nil ?_
      simp only [thenK]
      refine' againL hL2 (Gets.cons rfl (Gets.cons rfl Gets.nil)) ?lt ?ag1 ?le ⟨i + 1, _, _, _, rfl, rfl, by omega, ?n1, ?cs1, rfl⟩
      case ag1 => (simp only [setL, List.set_cons_zero, List.set_cons_succ]; exact (Ag.keep (Ag.keep (Ag.keep (Ag.keep (Ag.keep (Ag.keep (Ag.keep (Ag.keep (Ag.any (Ag.keep (Ag.keep (Ag.keep (Ag.keep (Ag.keep (Ag.keep (Ag.keep (Ag.keep (Ag.keep (Ag.keep (Ag.any (Ag.any (Ag.any (Ag.any (Ag.any (Ag.any (Ag.any Ag.nil)))))))))))))))))))))))))))
      case le => (first | with_reducible exact Le.refl | (refine Le.of ?_; (repeat (first | with_reducible exact Sp.refl | with_reducible exact Sp.nil | (apply Sp.pick; focus ((repeat (first | with_reducible exact Rm.head | with_reducible apply Rm.tail)); done)) | with_reducible refine Sp.drop ?_))))
      case lt => omega
      case n1 => rw [hsn]
      case cs1 => rw [hsn]
    · refine HC_exit ?_
      simp only [thenK, blockK, reduceIte]
      have hi' : i = came.length := by simp at hcd; omega
      subst hi'
      rw [List.take_length] at *
      generalize hG : goneL came (f, t) = G at *
      refine hN3 _ _ ?_
      try clear hN3 N3
      refine HC_seq fun N9 hN9 => ?_
      refine HC_seq fun N10 hN10 => ?_
      refine HC_region ?_
      refine' HL_q rfl rfl (QV_move (Ev.tmp rfl)) ?_
      simp only [List.set_cons_zero, List.set_cons_succ, Int.toNat_natCast, Nat.reduceAdd, Nat.reduceMul, Int.reduceToNat, List.getElem_toArray, List.getElem_cons_zero, List.getElem_cons_succ, cells_agg, cells_int, cells_bool, cells_slice, cells_ptr]
      refine' HL_q rfl rfl (QV_len (Ev.tmp rfl) Try.underlying103) ?_
      simp only [List.set_cons_zero, List.set_cons_succ, Int.toNat_natCast, Nat.reduceAdd, Nat.reduceMul, Int.reduceToNat, List.getElem_toArray, List.getElem_cons_zero, List.getElem_cons_succ, cells_agg, cells_int, cells_bool, cells_slice, cells_ptr]
      refine' HL_q rfl rfl (QV_move Ev.const) ?_
      simp only [List.set_cons_zero, List.set_cons_succ, Int.toNat_natCast, Nat.reduceAdd, Nat.reduceMul, Int.reduceToNat, List.getElem_toArray, List.getElem_cons_zero, List.getElem_cons_succ, cells_agg, cells_int, cells_bool, cells_slice, cells_ptr]
      refine HL_nil ?_
      refine hN10 _ _ ?_
      try clear hN10 N10
      refine HC_block ?_
      refine HC_loop [28] [false, false, false, false, false, false, false, false, false, false, true, false, false, false, false, false, false, false, false, false, false, false, false, false, false, false, false, false, false, true, true, true, true, true, true, true, true, true, true, true, true, true] (fun gh vs RR => ∃ (j : Nat) (lv' : Value) (n' : Nat) (cs' : List Value), vs = [(.int .i64 j)] ∧ gh = G.length - j ∧ j ≤ G.length ∧ n' = (wiAll lost (G.take j)).length ∧ cs' = runC (wiAll lost (G.take j)) ∧ RR = pt b (.cells #[.int .i64 1, .int .u64 id, .int .u64 credit, bv, .int .i64 fresh, lv', .slice A2 came.length c2, .bool last, .int .i64 e, .bool reset] 105 (0, 0)) :: own 107 2 lv' n' cs' :: own 107 2 (.slice A6 G.length c6) G.length (runC G) :: own 107 2 (.slice A2 came.length c2) came.length (runC came) :: R) ?start ?round
      case start =>
        simp only [List.map_cons, List.map_nil, List.getD_cons_zero, List.getD_cons_succ]
        refine' ⟨_, _, ?le, 0, lv, lost.length, runC lost, rfl, rfl, Nat.zero_le _, rfl, rfl, rfl⟩
        case le => (first | with_reducible exact Le.refl | (refine Le.of ?_; (repeat (first | with_reducible exact Sp.refl | with_reducible exact Sp.nil | (apply Sp.pick; focus ((repeat (first | with_reducible exact Rm.head | with_reducible apply Rm.tail)); done)) | with_reducible refine Sp.drop ?_))))
      case round =>
        rintro _ _ _ u ⟨j, lv', n', cs', rfl, rfl, hj, hn', hcs', rfl⟩ NL7 hL7
        simp only [setL, fill, List.set_cons_zero, List.set_cons_succ, Nat.zero_add, Nat.reduceAdd]
        subst hn' hcs'
        obtain ⟨hsm2, hlen2⟩ := h2 j hj
        refine HC_fact (fun w hw => own_shape hw (List.mem_cons_of_mem _ (List.mem_cons_self ..))) ?_
        rintro ⟨A7, c7, rfl, hc7, hc7', ha7⟩
        have hs7 : ∀ R, own 107 2 (.slice A7 (wiAll lost (G.take j)).length c7) (wiAll lost (G.take j)).length (runC (wiAll lost (G.take j))) ∈ R → Sl w0 R 2 A7 (wiAll lost (G.take j)).length (runC (wiAll lost (G.take j))) := fun R hR => Sl.of_own hR (runC_length _) (runC_one _) ha7
        refine HC_seq fun N11 hN11 => ?_
        refine HC_region ?_
        first
          | (refine' HL_q rfl rfl (QV_lss_y (Ev.tmp rfl) (Ev.tmp rfl) ?hb) ?_; case hb => omega)
          | (refine' HL_q rfl rfl (QV_lss_n (Ev.tmp rfl) (Ev.tmp rfl) ?hb) ?_; case hb => omega)
          | (refine' HL_q rfl rfl (QV_lss (Ev.tmp rfl) (Ev.tmp rfl)) ?_)
        simp only [List.set_cons_zero, List.set_cons_succ, Int.toNat_natCast, Nat.reduceAdd, Nat.reduceMul, Int.reduceToNat, List.getElem_toArray, List.getElem_cons_zero, List.getElem_cons_succ, cells_agg, cells_int, cells_bool, cells_slice, cells_ptr]
        refine HL_nil ?_
        refine hN11 _ _ ?_
        try clear hN11 N11
        refine HC_seq fun N12 hN12 => ?_
        refine HC_cond rfl (fun hcd2 => ?_) (fun hcd2 => ?_)
        · refine HC_skip ?_
          refine hN12 _ _ ?_
          try clear hN12 N12
          have hj' : j < G.length := by simpa using hcd2
          obtain ⟨ga, rfl⟩ := ha6 (by omega)
          have hx := runC_drop2 G j hj'
          obtain ⟨b1, b2, b3, b4⟩ := hsm.at j hj'
          have hsn := wiAll_snoc lost G j hj'
          generalize ea : (G[j]).1 = x at *
          generalize eb : (G[j]).2 = y at *
          have el : G[j] = (x, y) := by rw [← ea, ← eb]
          rw [el] at hsn
          refine HC_seq fun N13 hN13 => ?_
          refine HC_block ?_
          refine HC_seq fun N14 hN14 => ?_
          refine HC_region ?_
          refine' HL_q rfl rfl (QV_index (Ev.tmp rfl) (Ev.tmp rfl) (indexAt_slice Try.underlying103 Try.sizeOf107 ?h0 ?h1)) ?_
          case h0 => omega
          case h1 => omega
          simp only [List.set_cons_zero, List.set_cons_succ, Int.toNat_natCast, Nat.reduceAdd, Nat.reduceMul, Int.reduceToNat, List.getElem_toArray, List.getElem_cons_zero, List.getElem_cons_succ, cells_agg, cells_int, cells_bool, cells_slice, cells_ptr]
          -- operation 1
          refine' HL_q rfl rfl (QV_loadRA (Ev.tmp rfl) ?hp Try.isAgg107 Try.sizeOf107 (hs6 _ (by simp)) hx rfl) ?_
          case hp => first | rfl | omega
          simp only [List.set_cons_zero, List.set_cons_succ, Int.toNat_natCast, Nat.reduceAdd, Nat.reduceMul, Int.reduceToNat, List.getElem_toArray, List.getElem_cons_zero, List.getElem_cons_succ, cells_agg, cells_int, cells_bool, cells_slice, cells_ptr]
          refine' HL_s rfl rfl (SO_alloc Try.zeroValue107 rfl) ?_
          rintro _ _ ⟨g10, rfl, rfl⟩
          simp only [List.set_cons_zero, List.set_cons_succ, Int.toNat_natCast, Nat.reduceAdd, Nat.reduceMul, Int.reduceToNat, List.getElem_toArray, List.getElem_cons_zero, List.getElem_cons_succ, cells_agg, cells_int, cells_bool, cells_slice, cells_ptr]
          refine' HL_s rfl rfl (SO_store (Ev.tmp rfl) (Ev.tmp rfl) Try.sizeOf107 ?hvs ?hn ?h1 ?hm ?hfit) ?_
          case hvs => rfl
          case hn => rfl
          case h1 => rfl
          case hm => (repeat (first | with_reducible exact Upd.head | exact Upd.at_ (by assumption) | exact Upd.set (by assumption) | apply Upd.tail))
          case hfit => simp
          rintro _ _ ⟨rfl, rfl⟩
          simp only [spl, List.set_cons_zero, List.set_cons_succ, List.toList_toArray, List.take_succ_cons, List.take_zero, List.drop_succ_cons, List.drop_zero, List.nil_append, List.cons_append, List.append_nil, List.length_cons, List.length_nil, Nat.zero_add, Nat.reduceAdd, List.take_nil, List.drop_nil]
          refine HL_nil ?_
          refine hN14 _ _ ?_
          try clear hN14 N14
          by_cases hxy : x < y
          · have hw : withR (wiAll lost (G.take j)) (x, y) = wi (wiAll lost (G.take j)) (x, y) := if_neg (by simp; omega)
            rw [hw] at hsn
            refine HC_draw 9 [] _ mixed rfl ?_
            refine' DA_take (i := 0) rfl (by kernel_rfl) (fun _ _ _ _ h => (kp _ _ _ h).elim) rfl (QV_move (Ev.tmp rfl)) ?_
            simp only [List.set_cons_zero, List.set_cons_succ, Int.toNat_natCast, Nat.reduceAdd, Nat.reduceMul, Int.reduceToNat, List.getElem_toArray, List.getElem_cons_zero, List.getElem_cons_succ, cells_agg, cells_int, cells_bool, cells_slice, cells_ptr]
            refine' DA_take (i := 1) rfl (by kernel_rfl) (fun _ _ _ _ h => (kp _ _ _ h).elim) rfl (QV_move (Ev.tmp rfl)) ?_
            simp only [List.set_cons_zero, List.set_cons_succ, Int.toNat_natCast, Nat.reduceAdd, Nat.reduceMul, Int.reduceToNat, List.getElem_toArray, List.getElem_cons_zero, List.getElem_cons_succ, cells_agg, cells_int, cells_bool, cells_slice, cells_ptr]
            refine' DA_take (i := 2) rfl (by kernel_rfl) (fun _ _ _ _ h => (kp _ _ _ h).elim) rfl (QV_nil (Ev.tmp rfl)) ?_
            simp only [List.set_cons_zero, List.set_cons_succ, Int.toNat_natCast, Nat.reduceAdd, Nat.reduceMul, Int.reduceToNat, List.getElem_toArray, List.getElem_cons_zero, List.getElem_cons_succ, cells_agg, cells_int, cells_bool, cells_slice, cells_ptr]
            refine' DA_take (i := 3) rfl (by kernel_rfl) (fun _ _ _ _ h => (kp _ _ _ h).elim) rfl (QV_field (Ev.tmp rfl) (fld105_5 _ _)) ?_
            simp only [List.set_cons_zero, List.set_cons_succ, Int.toNat_natCast, Nat.reduceAdd, Nat.reduceMul, Int.reduceToNat, List.getElem_toArray, List.getElem_cons_zero, List.getElem_cons_succ, cells_agg, cells_int, cells_bool, cells_slice, cells_ptr]
            first
              | (refine' DA_take (i := 4) rfl (by kernel_rfl) (fun _ _ _ _ h => (kp _ _ _ h).elim) rfl (QV_load1 (Ev.tmp rfl) Try.isAgg103 ?hm ?hv) ?_; (case hm => (repeat (first | exact List.Mem.head _ | assumption | exact List.mem_of_getElem? (by assumption) | exact mem_set_self (by assumption) | apply List.Mem.tail))); (case hv => (first | rfl | assumption)))
              | (refine' DA_take (i := 4) rfl (by kernel_rfl) (fun _ _ _ _ h => (kp _ _ _ h).elim) rfl (QV_loadR (Ev.tmp rfl) ?hp Try.isAgg103 ?hs ?hv) ?_; (case hs => (first | assumption | (refine' Sl.sub (by assumption) ?_; (repeat (first | with_reducible exact List.Sublist.refl _ | with_reducible apply List.Sublist.cons_cons | with_reducible apply List.Sublist.cons))))); (case hv => (first  | rfl | assumption)); (case hp => (first | rfl | omega)))
            simp only [List.set_cons_zero, List.set_cons_succ, Int.toNat_natCast, Nat.reduceAdd, Nat.reduceMul, Int.reduceToNat, List.getElem_toArray, List.getElem_cons_zero, List.getElem_cons_succ, cells_agg, cells_int, cells_bool, cells_slice, cells_ptr]
            first
              | (refine' DA_take (i := 5) rfl (by kernel_rfl) (fun _ _ _ _ h => (kp _ _ _ h).elim) rfl (QV_loadA (Ev.tmp rfl) Try.isAgg107 Try.sizeOf107 ?hm ?hv ?hn) ?_; (case hm => (repeat (first | exact List.Mem.head _ | assumption | exact List.mem_of_getElem? (by assumption) | exact mem_set_self (by assumption) | apply List.Mem.tail))); (case hv => (simp only [List.toList_toArray, List.take_succ_cons, List.take_zero, List.drop_succ_cons, List.drop_zero, List.take_nil]; rfl)); (case hn => rfl))
              | (refine' DA_take (i := 5) rfl (by kernel_rfl) (fun _ _ _ _ h => (kp _ _ _ h).elim) rfl (QV_loadRA (Ev.tmp rfl) ?hp Try.isAgg107 Try.sizeOf107 ?hs ?hv ?hn) ?_; (case hs => (first | assumption | (refine' Sl.sub (by assumption) ?_; (repeat (first | with_reducible exact List.Sublist.refl _ | with_reducible apply List.Sublist.cons_cons | with_reducible apply List.Sublist.cons))))); (case hv => (first  | rfl)); (case hp => (first | rfl | omega)); (case hn => rfl))
            simp only [List.set_cons_zero, List.set_cons_succ, Int.toNat_natCast, Nat.reduceAdd, Nat.reduceMul, Int.reduceToNat, List.getElem_toArray, List.getElem_cons_zero, List.getElem_cons_succ, cells_agg, cells_int, cells_bool, cells_slice, cells_ptr]
            refine DA_one (i := 6) (by kernel_rfl) ?_
            refine' DB_call (i := 6) rfl rfl en101 (call_fn (EvL.cons (Ev.tmp rfl) (EvL.cons (Ev.tmp rfl) EvL.nil)).evs) ((with_some (hs7 _ (by simp)) hsm2 hlen2 (by omega) hxy (by omega))) ?_
            rintro v38 _ rfl
            refine ⟨_ :: _, rfl, ?_⟩
            refine DA_fact (fun w hw => own_shape hw (List.mem_cons_self ..)) ?_
            rintro ⟨A38, c38, rfl, _, _, _⟩
            simp only [List.set_cons_zero, List.set_cons_succ, Int.toNat_natCast, Nat.reduceAdd, Nat.reduceMul, Int.reduceToNat, List.getElem_toArray, List.getElem_cons_zero, List.getElem_cons_succ, cells_agg, cells_int, cells_bool, cells_slice, cells_ptr]
            refine' DA_take (i := 7) rfl (by kernel_rfl) (fun _ _ _ _ h => (kp _ _ _ h).elim) rfl (QV_nil (Ev.tmp rfl)) ?_
            simp only [List.set_cons_zero, List.set_cons_succ, Int.toNat_natCast, Nat.reduceAdd, Nat.reduceMul, Int.reduceToNat, List.getElem_toArray, List.getElem_cons_zero, List.getElem_cons_succ, cells_agg, cells_int, cells_bool, cells_slice, cells_ptr]
            refine' DA_take (i := 8) rfl (by kernel_rfl) (fun _ _ _ _ h => (kp _ _ _ h).elim) rfl (QV_field (Ev.tmp rfl) (fld105_5 _ _)) ?_
            simp only [List.set_cons_zero, List.set_cons_succ, Int.toNat_natCast, Nat.reduceAdd, Nat.reduceMul, Int.reduceToNat, List.getElem_toArray, List.getElem_cons_zero, List.getElem_cons_succ, cells_agg, cells_int, cells_bool, cells_slice, cells_ptr]
            refine DA_cut (q1 := 10) (by kernel_rfl) rfl ?_
            try simp only [List.nil_append, List.cons_append]
            refine DA_one (i := 9) (by kernel_rfl) ?_
            refine' DB_z (i := 9) rfl rfl rfl (SO_store (Ev.tmp rfl) (Ev.tmp rfl) Try.sizeOf103 ?hvs ?hn ?h1 ?hm ?hfit) ?_
            case hvs => rfl
            case hn => rfl
            case h1 => rfl
            case hm => (repeat (first | with_reducible exact Upd.head | exact Upd.at_ (by assumption) | exact Upd.set (by assumption) | apply Upd.tail))
            case hfit => simp
            rintro _ _ ⟨rfl, rfl⟩
            simp only [spl, List.set_cons_zero, List.set_cons_succ, List.toList_toArray, List.take_succ_cons, List.take_zero, List.drop_succ_cons, List.drop_zero, List.nil_append, List.cons_append, List.append_nil, List.length_cons, List.length_nil, Nat.zero_add, Nat.reduceAdd, List.take_nil, List.drop_nil]
            refine DA_end (by kernel_rfl) ?_
            try simp only [List.nil_append, List.cons_append]
            refine hN13 _ _ ?_
            try clear hN13 N13
            refine HC_region ?_
            refine' HL_q rfl rfl (QV_add (Ev.tmp rfl) Ev.const ?hr) ?_
            case hr => first | exact IntWalk.i64_in _ (by omega) | exact IntWalk.u64_in _ (by omega) | exact IntWalk.u8_in _ (by omega) | exact IntWalk.u32_in _ (by omega) | exact IntWalk.i64_quo _ _ (by omega) | exact IntWalk.u64_quo _ _ (by omega) | rfl
            simp only [List.set_cons_zero, List.set_cons_succ, Int.toNat_natCast, Nat.reduceAdd, Nat.reduceMul, Int.reduceToNat, List.getElem_toArray, List.getElem_cons_zero, List.getElem_cons_succ, cells_agg, cells_int, cells_bool, cells_slice, cells_ptr]
            refine' HL_q rfl rfl (QV_move (Ev.tmp rfl)) ?_
            simp only [List.set_cons_zero, List.set_cons_succ, Int.toNat_natCast, Nat.reduceAdd, Nat.reduceMul, Int.reduceToNat, List.getElem_toArray, List.getElem_cons_zero, List.getElem_cons_succ, cells_agg, cells_int, cells_bool, cells_slice, cells_ptr]
            refine HL_nil ?_
            simp only [thenK]
            refine' againL hL7 (Gets.cons rfl Gets.nil) ?lt ?ag2 ?le ⟨j + 1, .slice A38 (wi (wiAll lost (G.take j)) (x, y)).length c38, (wi (wiAll lost (G.take j)) (x, y)).length, runC (wi (wiAll lost (G.take j)) (x, y)), rfl, rfl, by omega, (by rw [hsn]), (by rw [hsn]), rfl⟩
            case ag2 => (simp only [setL, List.set_cons_zero, List.set_cons_succ]; exact (Ag.keep (Ag.keep (Ag.keep (Ag.keep (Ag.keep (Ag.keep (Ag.keep (Ag.keep (Ag.keep (Ag.keep (Ag.any (Ag.keep (Ag.keep (Ag.keep (Ag.keep (Ag.keep (Ag.keep (Ag.keep (Ag.keep (Ag.keep (Ag.keep (Ag.keep (Ag.keep (Ag.keep (Ag.keep (Ag.keep (Ag.keep (Ag.keep (Ag.keep (Ag.any (Ag.any (Ag.any (Ag.any (Ag.any (Ag.any (Ag.any (Ag.any (Ag.any (Ag.any (Ag.any (Ag.any (Ag.any Ag.nil)))))))))))))))))))))))))))))))))))))))))))
            case le => (first | with_reducible exact Le.refl | (refine Le.of ?_; (repeat (first | with_reducible exact Sp.refl | with_reducible exact Sp.nil | (apply Sp.pick; focus ((repeat (first | with_reducible exact Rm.head | with_reducible apply Rm.tail)); done)) | with_reducible refine Sp.drop ?_))))
            case lt => omega
          · have hw : withR (wiAll lost (G.take j)) (x, y) = wiAll lost (G.take j) := if_pos (by simp; omega)
            rw [hw] at hsn
            refine HC_draw 9 [] _ mixed rfl ?_
            refine' DA_take (i := 0) rfl (by kernel_rfl) (fun _ _ _ _ h => (kp _ _ _ h).elim) rfl (QV_move (Ev.tmp rfl)) ?_
            simp only [List.set_cons_zero, List.set_cons_succ, Int.toNat_natCast, Nat.reduceAdd, Nat.reduceMul, Int.reduceToNat, List.getElem_toArray, List.getElem_cons_zero, List.getElem_cons_succ, cells_agg, cells_int, cells_bool, cells_slice, cells_ptr]
            refine' DA_take (i := 1) rfl (by kernel_rfl) (fun _ _ _ _ h => (kp _ _ _ h).elim) rfl (QV_move (Ev.tmp rfl)) ?_
            simp only [List.set_cons_zero, List.set_cons_succ, Int.toNat_natCast, Nat.reduceAdd, Nat.reduceMul, Int.reduceToNat, List.getElem_toArray, List.getElem_cons_zero, List.getElem_cons_succ, cells_agg, cells_int, cells_bool, cells_slice, cells_ptr]
            refine' DA_take (i := 2) rfl (by kernel_rfl) (fun _ _ _ _ h => (kp _ _ _ h).elim) rfl (QV_nil (Ev.tmp rfl)) ?_
            simp only [List.set_cons_zero, List.set_cons_succ, Int.toNat_natCast, Nat.reduceAdd, Nat.reduceMul, Int.reduceToNat, List.getElem_toArray, List.getElem_cons_zero, List.getElem_cons_succ, cells_agg, cells_int, cells_bool, cells_slice, cells_ptr]
            refine' DA_take (i := 3) rfl (by kernel_rfl) (fun _ _ _ _ h => (kp _ _ _ h).elim) rfl (QV_field (Ev.tmp rfl) (fld105_5 _ _)) ?_
            simp only [List.set_cons_zero, List.set_cons_succ, Int.toNat_natCast, Nat.reduceAdd, Nat.reduceMul, Int.reduceToNat, List.getElem_toArray, List.getElem_cons_zero, List.getElem_cons_succ, cells_agg, cells_int, cells_bool, cells_slice, cells_ptr]
            first
              | (refine' DA_take (i := 4) rfl (by kernel_rfl) (fun _ _ _ _ h => (kp _ _ _ h).elim) rfl (QV_load1 (Ev.tmp rfl) Try.isAgg103 ?hm ?hv) ?_; (case hm => (repeat (first | exact List.Mem.head _ | assumption | exact List.mem_of_getElem? (by assumption) | exact mem_set_self (by assumption) | apply List.Mem.tail))); (case hv => (first | rfl | assumption)))
              | (refine' DA_take (i := 4) rfl (by kernel_rfl) (fun _ _ _ _ h => (kp _ _ _ h).elim) rfl (QV_loadR (Ev.tmp rfl) ?hp Try.isAgg103 ?hs ?hv) ?_; (case hs => (first | assumption | (refine' Sl.sub (by assumption) ?_; (repeat (first | with_reducible exact List.Sublist.refl _ | with_reducible apply List.Sublist.cons_cons | with_reducible apply List.Sublist.cons))))); (case hv => (first  | rfl | assumption)); (case hp => (first | rfl | omega)))
            simp only [List.set_cons_zero, List.set_cons_succ, Int.toNat_natCast, Nat.reduceAdd, Nat.reduceMul, Int.reduceToNat, List.getElem_toArray, List.getElem_cons_zero, List.getElem_cons_succ, cells_agg, cells_int, cells_bool, cells_slice, cells_ptr]
            first
              | (refine' DA_take (i := 5) rfl (by kernel_rfl) (fun _ _ _ _ h => (kp _ _ _ h).elim) rfl (QV_loadA (Ev.tmp rfl) Try.isAgg107 Try.sizeOf107 ?hm ?hv ?hn) ?_; (case hm => (repeat (first | exact List.Mem.head _ | assumption | exact List.mem_of_getElem? (by assumption) | exact mem_set_self (by assumption) | apply List.Mem.tail))); (case hv => (simp only [List.toList_toArray, List.take_succ_cons, List.take_zero, List.drop_succ_cons, List.drop_zero, List.take_nil]; rfl)); (case hn => rfl))
              | (refine' DA_take (i := 5) rfl (by kernel_rfl) (fun _ _ _ _ h => (kp _ _ _ h).elim) rfl (QV_loadRA (Ev.tmp rfl) ?hp Try.isAgg107 Try.sizeOf107 ?hs ?hv ?hn) ?_; (case hs => (first | assumption | (refine' Sl.sub (by assumption) ?_; (repeat (first | with_reducible exact List.Sublist.refl _ | with_reducible apply List.Sublist.cons_cons | with_reducible apply List.Sublist.cons))))); (case hv => (first  | rfl)); (case hp => (first | rfl | omega)); (case hn => rfl))
            simp only [List.set_cons_zero, List.set_cons_succ, Int.toNat_natCast, Nat.reduceAdd, Nat.reduceMul, Int.reduceToNat, List.getElem_toArray, List.getElem_cons_zero, List.getElem_cons_succ, cells_agg, cells_int, cells_bool, cells_slice, cells_ptr]
            refine DA_one (i := 6) (by kernel_rfl) ?_
            refine' DB_call (i := 6) rfl rfl en101 (call_fn (EvL.cons (Ev.tmp rfl) (EvL.cons (Ev.tmp rfl) EvL.nil)).evs) ((with_none (hs7 _ (by simp)) hsm2 hlen2 (by omega) (by omega) (by omega) (by omega))) ?_
            rintro _ _ ⟨rfl, rfl⟩
            refine ⟨_, rfl, ?_⟩
            simp only [List.set_cons_zero, List.set_cons_succ, Int.toNat_natCast, Nat.reduceAdd, Nat.reduceMul, Int.reduceToNat, List.getElem_toArray, List.getElem_cons_zero, List.getElem_cons_succ, cells_agg, cells_int, cells_bool, cells_slice, cells_ptr]
            refine' DA_take (i := 7) rfl (by kernel_rfl) (fun _ _ _ _ h => (kp _ _ _ h).elim) rfl (QV_nil (Ev.tmp rfl)) ?_
            simp only [List.set_cons_zero, List.set_cons_succ, Int.toNat_natCast, Nat.reduceAdd, Nat.reduceMul, Int.reduceToNat, List.getElem_toArray, List.getElem_cons_zero, List.getElem_cons_succ, cells_agg, cells_int, cells_bool, cells_slice, cells_ptr]
            refine' DA_take (i := 8) rfl (by kernel_rfl) (fun _ _ _ _ h => (kp _ _ _ h).elim) rfl (QV_field (Ev.tmp rfl) (fld105_5 _ _)) ?_
            simp only [List.set_cons_zero, List.set_cons_succ, Int.toNat_natCast, Nat.reduceAdd, Nat.reduceMul, Int.reduceToNat, List.getElem_toArray, List.getElem_cons_zero, List.getElem_cons_succ, cells_agg, cells_int, cells_bool, cells_slice, cells_ptr]
            refine DA_cut (q1 := 10) (by kernel_rfl) rfl ?_
            try simp only [List.nil_append, List.cons_append]
            refine DA_one (i := 9) (by kernel_rfl) ?_
            refine' DB_z (i := 9) rfl rfl rfl (SO_store (Ev.tmp rfl) (Ev.tmp rfl) Try.sizeOf103 ?hvs ?hn ?h1 ?hm ?hfit) ?_
            case hvs => rfl
            case hn => rfl
            case h1 => rfl
            case hm => (repeat (first | with_reducible exact Upd.head | exact Upd.at_ (by assumption) | exact Upd.set (by assumption) | apply Upd.tail))
            case hfit => simp
            rintro _ _ ⟨rfl, rfl⟩
            simp only [spl, List.set_cons_zero, List.set_cons_succ, List.toList_toArray, List.take_succ_cons, List.take_zero, List.drop_succ_cons, List.drop_zero, List.nil_append, List.cons_append, List.append_nil, List.length_cons, List.length_nil, Nat.zero_add, Nat.reduceAdd, List.take_nil, List.drop_nil]
            refine DA_end (by kernel_rfl) ?_
            try simp only [List.nil_append, List.cons_append]
            refine hN13 _ _ ?_
            try clear hN13 N13
            refine HC_region ?_
            refine' HL_q rfl rfl (QV_add (Ev.tmp rfl) Ev.const ?hr) ?_
            case hr => first | exact IntWalk.i64_in _ (by omega) | exact IntWalk.u64_in _ (by omega) | exact IntWalk.u8_in _ (by omega) | exact IntWalk.u32_in _ (by omega) | exact IntWalk.i64_quo _ _ (by omega) | exact IntWalk.u64_quo _ _ (by omega) | rfl
            simp only [List.set_cons_zero, List.set_cons_succ, Int.toNat_natCast, Nat.reduceAdd, Nat.reduceMul, Int.reduceToNat, List.getElem_toArray, List.getElem_cons_zero, List.getElem_cons_succ, cells_agg, cells_int, cells_bool, cells_slice, cells_ptr]
            refine' HL_q rfl rfl (QV_move (Ev.tmp rfl)) ?_
            simp only [List.set_cons_zero, List.set_cons_succ, Int.toNat_natCast, Nat.reduceAdd, Nat.reduceMul, Int.reduceToNat, List.getElem_toArray, List.getElem_cons_zero, List.getElem_cons_succ, cells_agg, cells_int, cells_bool, cells_slice, cells_ptr]
            refine HL_nil ?_
            simp only [thenK]
            refine' againL hL7 (Gets.cons rfl Gets.nil) ?lt ?ag3 ?le ⟨j + 1, .slice A7 (wiAll lost (G.take j)).length c7, (wiAll lost (G.take j)).length, runC (wiAll lost (G.take j)), rfl, rfl, by omega, (by rw [hsn]), (by rw [hsn]), rfl⟩
            case ag3 => (simp only [setL, List.set_cons_zero, List.set_cons_succ]; exact (Ag.keep (Ag.keep (Ag.keep (Ag.keep (Ag.keep (Ag.keep (Ag.keep (Ag.keep (Ag.keep (Ag.keep (Ag.any (Ag.keep (Ag.keep (Ag.keep (Ag.keep (Ag.keep (Ag.keep (Ag.keep (Ag.keep (Ag.keep (Ag.keep (Ag.keep (Ag.keep (Ag.keep (Ag.keep (Ag.keep (Ag.keep (Ag.keep (Ag.keep (Ag.any (Ag.any (Ag.any (Ag.any (Ag.any (Ag.any (Ag.any (Ag.any (Ag.any (Ag.any (Ag.any (Ag.any (Ag.any Ag.nil)))))))))))))))))))))))))))))))))))))))))))
            case le => (first | with_reducible exact Le.refl | (refine Le.of ?_; (repeat (first | with_reducible exact Sp.refl | with_reducible exact Sp.nil | (apply Sp.pick; focus ((repeat (first | with_reducible exact Rm.head | with_reducible apply Rm.tail)); done)) | with_reducible refine Sp.drop ?_))))
            case lt => omega
        · refine HC_exit ?_
          simp only [thenK, blockK, reduceIte]
          have hj' : j = G.length := by simp at hcd2; omega
          subst hj'
          rw [List.take_length] at *
          refine hN9 _ _ ?_
          try clear hN9 N9
          cases fin
          · simp only [Bool.false_and, Bool.false_eq_true, if_false] at kn
            refine HC_seq fun N15 hN15 => ?_
            refine HC_region ?_
            refine' HL_q rfl rfl (QV_move (Ev.tmp rfl)) ?_
            simp only [List.set_cons_zero, List.set_cons_succ, Int.toNat_natCast, Nat.reduceAdd, Nat.reduceMul, Int.reduceToNat, List.getElem_toArray, List.getElem_cons_zero, List.getElem_cons_succ, cells_agg, cells_int, cells_bool, cells_slice, cells_ptr]
            refine' HL_q rfl rfl (QV_move (Ev.tmp rfl)) ?_
            simp only [List.set_cons_zero, List.set_cons_succ, Int.toNat_natCast, Nat.reduceAdd, Nat.reduceMul, Int.reduceToNat, List.getElem_toArray, List.getElem_cons_zero, List.getElem_cons_succ, cells_agg, cells_int, cells_bool, cells_slice, cells_ptr]
            first
              | (refine HL_skip rfl ?_; simp only [List.set_cons_zero, List.set_cons_succ, Int.toNat_natCast, Nat.reduceAdd, Nat.reduceMul, Int.reduceToNat, List.getElem_toArray, List.getElem_cons_zero, List.getElem_cons_succ, cells_agg, cells_int, cells_bool, cells_slice, cells_ptr])
              |
                refine' HL_q rfl rfl (QV_move (Ev.tmp rfl)) ?_
                simp only [List.set_cons_zero, List.set_cons_succ, Int.toNat_natCast, Nat.reduceAdd, Nat.reduceMul, Int.reduceToNat, List.getElem_toArray, List.getElem_cons_zero, List.getElem_cons_succ, cells_agg, cells_int, cells_bool, cells_slice, cells_ptr]
            first
              | (refine HL_skip rfl ?_; simp only [List.set_cons_zero, List.set_cons_succ, Int.toNat_natCast, Nat.reduceAdd, Nat.reduceMul, Int.reduceToNat, List.getElem_toArray, List.getElem_cons_zero, List.getElem_cons_succ, cells_agg, cells_int, cells_bool, cells_slice, cells_ptr])
              |
                refine' HL_q rfl rfl (QV_nil (Ev.tmp rfl)) ?_
                simp only [List.set_cons_zero, List.set_cons_succ, Int.toNat_natCast, Nat.reduceAdd, Nat.reduceMul, Int.reduceToNat, List.getElem_toArray, List.getElem_cons_zero, List.getElem_cons_succ, cells_agg, cells_int, cells_bool, cells_slice, cells_ptr]
            first
              | (refine HL_skip rfl ?_; simp only [List.set_cons_zero, List.set_cons_succ, Int.toNat_natCast, Nat.reduceAdd, Nat.reduceMul, Int.reduceToNat, List.getElem_toArray, List.getElem_cons_zero, List.getElem_cons_succ, cells_agg, cells_int, cells_bool, cells_slice, cells_ptr])
              |
                refine' HL_q rfl rfl (QV_field (Ev.tmp rfl) (fld105_8 _ _)) ?_
                simp only [List.set_cons_zero, List.set_cons_succ, Int.toNat_natCast, Nat.reduceAdd, Nat.reduceMul, Int.reduceToNat, List.getElem_toArray, List.getElem_cons_zero, List.getElem_cons_succ, cells_agg, cells_int, cells_bool, cells_slice, cells_ptr]
            first
              | (refine HL_skip rfl ?_; simp only [List.set_cons_zero, List.set_cons_succ, Int.toNat_natCast, Nat.reduceAdd, Nat.reduceMul, Int.reduceToNat, List.getElem_toArray, List.getElem_cons_zero, List.getElem_cons_succ, cells_agg, cells_int, cells_bool, cells_slice, cells_ptr])
              |
                first
                  | (refine' HL_q rfl rfl (QV_load1 (Ev.tmp rfl) Try.isAgg3 ?hm ?hv) ?_; (case hm => (repeat (first | exact List.Mem.head _ | assumption | exact List.mem_of_getElem? (by assumption) | exact mem_set_self (by assumption) | apply List.Mem.tail))); (case hv => (first | rfl | assumption)))
                  | (refine' HL_q rfl rfl (QV_loadR (Ev.tmp rfl) ?hp Try.isAgg3 ?hs ?hv) ?_; (case hs => (first | assumption | (refine' Sl.sub (by assumption) ?_; (repeat (first | with_reducible exact List.Sublist.refl _ | with_reducible apply List.Sublist.cons_cons | with_reducible apply List.Sublist.cons))))); (case hv => (first  | rfl | assumption)); (case hp => (first | rfl | omega)))
                simp only [List.set_cons_zero, List.set_cons_succ, Int.toNat_natCast, Nat.reduceAdd, Nat.reduceMul, Int.reduceToNat, List.getElem_toArray, List.getElem_cons_zero, List.getElem_cons_succ, cells_agg, cells_int, cells_bool, cells_slice, cells_ptr]
            first
              | (refine HL_skip rfl ?_; simp only [List.set_cons_zero, List.set_cons_succ, Int.toNat_natCast, Nat.reduceAdd, Nat.reduceMul, Int.reduceToNat, List.getElem_toArray, List.getElem_cons_zero, List.getElem_cons_succ, cells_agg, cells_int, cells_bool, cells_slice, cells_ptr])
              |
                first
                  | (refine' HL_q rfl rfl (QV_neq_y (Ev.tmp rfl) Ev.const ?hb) ?_; case hb => omega)
                  | (refine' HL_q rfl rfl (QV_neq_n (Ev.tmp rfl) Ev.const ?hb) ?_; case hb => omega)
                  | (refine' HL_q rfl rfl (QV_neq (Ev.tmp rfl) Ev.const) ?_)
                simp only [List.set_cons_zero, List.set_cons_succ, Int.toNat_natCast, Nat.reduceAdd, Nat.reduceMul, Int.reduceToNat, List.getElem_toArray, List.getElem_cons_zero, List.getElem_cons_succ, cells_agg, cells_int, cells_bool, cells_slice, cells_ptr]
            refine' HL_q rfl rfl (QV_pick (Ev.tmp rfl) (Ev.tmp rfl) Ev.const) ?_
            simp only [if_true, if_false, Bool.false_eq_true, reduceIte, List.set_cons_zero, List.set_cons_succ, Int.toNat_natCast, Nat.reduceAdd, Nat.reduceMul, Int.reduceToNat, List.getElem_toArray, List.getElem_cons_zero, List.getElem_cons_succ, cells_agg, cells_int, cells_bool, cells_slice, cells_ptr]
            refine HL_nil ?_
            refine hN15 _ _ ?_
            try clear hN15 N15
            refine HC_false rfl ?_
            refine HC_skip ?_
            try simp only [thenK, blockK, reduceIte]
            refine kn _ _ ?_
            refine' Lv_none rfl ?post ?le
            case post => exact ⟨.slice A7 (wiAll lost G).length c7, rfl⟩
            case le => (first | with_reducible exact Le.refl | (refine Le.of ?_; (repeat (first | with_reducible exact Sp.refl | with_reducible exact Sp.nil | (apply Sp.pick; focus ((repeat (first | with_reducible exact Rm.head | with_reducible apply Rm.tail)); done)) | with_reducible refine Sp.drop ?_))))
          · simp only [Bool.true_and] at kn
            refine HC_seq fun N15 hN15 => ?_
            refine HC_region ?_
            refine' HL_q rfl rfl (QV_move (Ev.tmp rfl)) ?_
            simp only [List.set_cons_zero, List.set_cons_succ, Int.toNat_natCast, Nat.reduceAdd, Nat.reduceMul, Int.reduceToNat, List.getElem_toArray, List.getElem_cons_zero, List.getElem_cons_succ, cells_agg, cells_int, cells_bool, cells_slice, cells_ptr]
            refine' HL_q rfl rfl (QV_move (Ev.tmp rfl)) ?_
            simp only [List.set_cons_zero, List.set_cons_succ, Int.toNat_natCast, Nat.reduceAdd, Nat.reduceMul, Int.reduceToNat, List.getElem_toArray, List.getElem_cons_zero, List.getElem_cons_succ, cells_agg, cells_int, cells_bool, cells_slice, cells_ptr]
            first
              | (refine HL_skip rfl ?_; simp only [List.set_cons_zero, List.set_cons_succ, Int.toNat_natCast, Nat.reduceAdd, Nat.reduceMul, Int.reduceToNat, List.getElem_toArray, List.getElem_cons_zero, List.getElem_cons_succ, cells_agg, cells_int, cells_bool, cells_slice, cells_ptr])
              |
                refine' HL_q rfl rfl (QV_move (Ev.tmp rfl)) ?_
                simp only [List.set_cons_zero, List.set_cons_succ, Int.toNat_natCast, Nat.reduceAdd, Nat.reduceMul, Int.reduceToNat, List.getElem_toArray, List.getElem_cons_zero, List.getElem_cons_succ, cells_agg, cells_int, cells_bool, cells_slice, cells_ptr]
            first
              | (refine HL_skip rfl ?_; simp only [List.set_cons_zero, List.set_cons_succ, Int.toNat_natCast, Nat.reduceAdd, Nat.reduceMul, Int.reduceToNat, List.getElem_toArray, List.getElem_cons_zero, List.getElem_cons_succ, cells_agg, cells_int, cells_bool, cells_slice, cells_ptr])
              |
                refine' HL_q rfl rfl (QV_nil (Ev.tmp rfl)) ?_
                simp only [List.set_cons_zero, List.set_cons_succ, Int.toNat_natCast, Nat.reduceAdd, Nat.reduceMul, Int.reduceToNat, List.getElem_toArray, List.getElem_cons_zero, List.getElem_cons_succ, cells_agg, cells_int, cells_bool, cells_slice, cells_ptr]
            first
              | (refine HL_skip rfl ?_; simp only [List.set_cons_zero, List.set_cons_succ, Int.toNat_natCast, Nat.reduceAdd, Nat.reduceMul, Int.reduceToNat, List.getElem_toArray, List.getElem_cons_zero, List.getElem_cons_succ, cells_agg, cells_int, cells_bool, cells_slice, cells_ptr])
              |
                refine' HL_q rfl rfl (QV_field (Ev.tmp rfl) (fld105_8 _ _)) ?_
                simp only [List.set_cons_zero, List.set_cons_succ, Int.toNat_natCast, Nat.reduceAdd, Nat.reduceMul, Int.reduceToNat, List.getElem_toArray, List.getElem_cons_zero, List.getElem_cons_succ, cells_agg, cells_int, cells_bool, cells_slice, cells_ptr]
            first
              | (refine HL_skip rfl ?_; simp only [List.set_cons_zero, List.set_cons_succ, Int.toNat_natCast, Nat.reduceAdd, Nat.reduceMul, Int.reduceToNat, List.getElem_toArray, List.getElem_cons_zero, List.getElem_cons_succ, cells_agg, cells_int, cells_bool, cells_slice, cells_ptr])
              |
                first
                  | (refine' HL_q rfl rfl (QV_load1 (Ev.tmp rfl) Try.isAgg3 ?hm ?hv) ?_; (case hm => (repeat (first | exact List.Mem.head _ | assumption | exact List.mem_of_getElem? (by assumption) | exact mem_set_self (by assumption) | apply List.Mem.tail))); (case hv => (first | rfl | assumption)))
                  | (refine' HL_q rfl rfl (QV_loadR (Ev.tmp rfl) ?hp Try.isAgg3 ?hs ?hv) ?_; (case hs => (first | assumption | (refine' Sl.sub (by assumption) ?_; (repeat (first | with_reducible exact List.Sublist.refl _ | with_reducible apply List.Sublist.cons_cons | with_reducible apply List.Sublist.cons))))); (case hv => (first  | rfl | assumption)); (case hp => (first | rfl | omega)))
                simp only [List.set_cons_zero, List.set_cons_succ, Int.toNat_natCast, Nat.reduceAdd, Nat.reduceMul, Int.reduceToNat, List.getElem_toArray, List.getElem_cons_zero, List.getElem_cons_succ, cells_agg, cells_int, cells_bool, cells_slice, cells_ptr]
            first
              | (refine HL_skip rfl ?_; simp only [List.set_cons_zero, List.set_cons_succ, Int.toNat_natCast, Nat.reduceAdd, Nat.reduceMul, Int.reduceToNat, List.getElem_toArray, List.getElem_cons_zero, List.getElem_cons_succ, cells_agg, cells_int, cells_bool, cells_slice, cells_ptr])
              |
                first
                  | (refine' HL_q rfl rfl (QV_neq_y (Ev.tmp rfl) Ev.const ?hb) ?_; case hb => omega)
                  | (refine' HL_q rfl rfl (QV_neq_n (Ev.tmp rfl) Ev.const ?hb) ?_; case hb => omega)
                  | (refine' HL_q rfl rfl (QV_neq (Ev.tmp rfl) Ev.const) ?_)
                simp only [List.set_cons_zero, List.set_cons_succ, Int.toNat_natCast, Nat.reduceAdd, Nat.reduceMul, Int.reduceToNat, List.getElem_toArray, List.getElem_cons_zero, List.getElem_cons_succ, cells_agg, cells_int, cells_bool, cells_slice, cells_ptr]
            refine' HL_q rfl rfl (QV_pick (Ev.tmp rfl) (Ev.tmp rfl) Ev.const) ?_
            simp only [if_true, if_false, Bool.false_eq_true, reduceIte, List.set_cons_zero, List.set_cons_succ, Int.toNat_natCast, Nat.reduceAdd, Nat.reduceMul, Int.reduceToNat, List.getElem_toArray, List.getElem_cons_zero, List.getElem_cons_succ, cells_agg, cells_int, cells_bool, cells_slice, cells_ptr]
            refine HL_nil ?_
            refine hN15 _ _ ?_
            try clear hN15 N15
            refine HC_cond rfl (fun h12 => ?_) (fun h12 => ?_)
            · have h12' : (e != 3) = true := h12
              simp only [h12', if_true] at kn
              refine HC_region ?_
              refine' HL_q rfl rfl (QV_move (Ev.tmp rfl)) ?_
              simp only [List.set_cons_zero, List.set_cons_succ, Int.toNat_natCast, Nat.reduceAdd, Nat.reduceMul, Int.reduceToNat, List.getElem_toArray, List.getElem_cons_zero, List.getElem_cons_succ, cells_agg, cells_int, cells_bool, cells_slice, cells_ptr]
              refine' HL_q rfl rfl (QV_nil (Ev.tmp rfl)) ?_
              simp only [List.set_cons_zero, List.set_cons_succ, Int.toNat_natCast, Nat.reduceAdd, Nat.reduceMul, Int.reduceToNat, List.getElem_toArray, List.getElem_cons_zero, List.getElem_cons_succ, cells_agg, cells_int, cells_bool, cells_slice, cells_ptr]
              refine' HL_q rfl rfl (QV_field (Ev.tmp rfl) (fld105_8 _ _)) ?_
              simp only [List.set_cons_zero, List.set_cons_succ, Int.toNat_natCast, Nat.reduceAdd, Nat.reduceMul, Int.reduceToNat, List.getElem_toArray, List.getElem_cons_zero, List.getElem_cons_succ, cells_agg, cells_int, cells_bool, cells_slice, cells_ptr]
              refine' HL_s rfl rfl (SO_store (Ev.tmp rfl) Ev.const Try.sizeOf3 ?hvs ?hn ?h1 ?hm ?hfit) ?_
              case hvs => rfl
              case hn => rfl
              case h1 => rfl
              case hm => (repeat (first | with_reducible exact Upd.head | exact Upd.at_ (by assumption) | exact Upd.set (by assumption) | apply Upd.tail))
              case hfit => simp
              rintro _ _ ⟨rfl, rfl⟩
              simp only [spl, List.set_cons_zero, List.set_cons_succ, List.toList_toArray, List.take_succ_cons, List.take_zero, List.drop_succ_cons, List.drop_zero, List.nil_append, List.cons_append, List.append_nil, List.length_cons, List.length_nil, Nat.zero_add, Nat.reduceAdd, List.take_nil, List.drop_nil]
              refine HL_nil ?_
              try simp only [thenK, blockK, reduceIte]
              refine kn _ _ ?_
              refine' Lv_none rfl ?post ?le
              case post => exact ⟨.slice A7 (wiAll lost G).length c7, rfl⟩
              case le => (first | with_reducible exact Le.refl | (refine Le.of ?_; (repeat (first | with_reducible exact Sp.refl | with_reducible exact Sp.nil | (apply Sp.pick; focus ((repeat (first | with_reducible exact Rm.head | with_reducible apply Rm.tail)); done)) | with_reducible refine Sp.drop ?_))))
            · have h12' : (e != 3) = false := h12
              simp only [h12', Bool.false_eq_true, if_false] at kn
              refine HC_skip ?_
              try simp only [thenK, blockK, reduceIte]
              refine kn _ _ ?_
              refine' Lv_none rfl ?post ?le
              case post => exact ⟨.slice A7 (wiAll lost G).length c7, rfl⟩
              case le => (first | with_reducible exact Le.refl | (refine Le.of ?_; (repeat (first | with_reducible exact Sp.refl | with_reducible exact Sp.nil | (apply Sp.pick; focus ((repeat (first | with_reducible exact Rm.head | with_reducible apply Rm.tail)); done)) | with_reducible refine Sp.drop ?_))))
end Go.Proofs.Ytcilfoicoambhaa
