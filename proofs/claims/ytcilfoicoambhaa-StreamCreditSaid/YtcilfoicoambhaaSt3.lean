import Derived.Test.YtcilfoicoambhaaSt2
set_option linter.unusedVariables false
set_option linter.unusedSimpArgs false
set_option maxRecDepth 20000
set_option maxHeartbeats 1000000
namespace Go.Proofs.Ytcilfoicoambhaa
open Go Go.Hw Go.RowKit

variable {w0 : World} {R : List Asn}

theorem with_calls {A : Option Addr} {c : Nat} {l : List Run} {f t : Int} (hs : Sl w0 R 2 A l.length (runC l)) (hl : Small l) (hlen : l.length ≤ 1000000) (hf : 0 ≤ f) (hf' : f ≤ 4000000000000000000) (ht : 0 ≤ t) (ht' : t ≤ 4000000000000000000) :
    CH Try.prog w0 101 #[.slice A l.length c, .agg #[.int .i64 f, .int .i64 t]] R fun v R' =>
      (t ≤ f ∧ v = .slice A l.length c ∧ R' = R) ∨ (f < t ∧ R' = own 107 2 v (wi l (f, t)).length (runC (wi l (f, t))) :: R) := by
  refine CH_of Try.func101 rfl fun K kn kr kp => ?_
  simp only [Try.ntmps101, List.size_toArray, List.length_cons, List.length_nil, Nat.reduceAdd, Nat.reduceSub, Array.replicate_succ, Array.replicate_zero, List.push_toArray, List.append_toArray, List.nil_append, List.cons_append]
  refine HC_seq fun N1 hN1 => ?_
  refine HC_region ?_
  refine' HL_s rfl rfl (SO_box (Ev.tmp rfl) rfl) ?_
  rintro _ _ ⟨g3, rfl, rfl⟩
  simp only [List.set_cons_zero, List.set_cons_succ, Int.toNat_natCast, Nat.reduceAdd, Nat.reduceMul, Int.reduceToNat, List.getElem_toArray, List.getElem_cons_zero, List.getElem_cons_succ, cells_agg, cells_int, cells_bool, cells_slice, cells_ptr]
  refine' HL_q rfl rfl (QV_assign Ev.const) ?_
  simp only [List.set_cons_zero, List.set_cons_succ, Int.toNat_natCast, Nat.reduceAdd, Nat.reduceMul, Int.reduceToNat, List.getElem_toArray, List.getElem_cons_zero, List.getElem_cons_succ, cells_agg, cells_int, cells_bool, cells_slice, cells_ptr]
  refine HL_nil ?_
  refine hN1 _ _ ?_
  try clear hN1 N1
  refine HC_seq fun N2 hN2 => ?_
  refine HC_seq fun N3 hN3 => ?_
  refine HC_region ?_
  first
    | (refine' HL_q rfl rfl (QV_loadA (Ev.tmp rfl) Try.isAgg107 Try.sizeOf107 ?hm ?hv ?hn) ?_; (case hm => (repeat (first | exact List.Mem.head _ | assumption | exact List.mem_of_getElem? (by assumption) | exact mem_set_self (by assumption) | apply List.Mem.tail))); (case hv => (simp only [List.toList_toArray, List.take_succ_cons, List.take_zero, List.drop_succ_cons, List.drop_zero, List.take_nil]; rfl)); (case hn => rfl))
    | (refine' HL_q rfl rfl (QV_loadRA (Ev.tmp rfl) ?hp Try.isAgg107 Try.sizeOf107 ?hs ?hv ?hn) ?_; (case hs => (first | assumption | (refine' Sl.sub (by assumption) ?_; (repeat (first | with_reducible exact List.Sublist.refl _ | with_reducible apply List.Sublist.cons_cons | with_reducible apply List.Sublist.cons))))); (case hv => (first  | rfl)); (case hp => (first | rfl | omega)); (case hn => rfl))
  simp only [List.set_cons_zero, List.set_cons_succ, Int.toNat_natCast, Nat.reduceAdd, Nat.reduceMul, Int.reduceToNat, List.getElem_toArray, List.getElem_cons_zero, List.getElem_cons_succ, cells_agg, cells_int, cells_bool, cells_slice, cells_ptr]
  -- operation 1
  refine' HL_call rfl en51 (call_fn (EvL.cons (Ev.tmp rfl) EvL.nil).evs) ((runlen (by omega) (by omega) (by omega) (by omega))) ?_
  rintro _ _ ⟨rfl, rfl⟩
  simp only [List.set_cons_zero, List.set_cons_succ]
  first
    | (refine' HL_q rfl rfl (QV_leq_y (Ev.tmp rfl) Ev.const ?hb) ?_; case hb => omega)
    | (refine' HL_q rfl rfl (QV_leq_n (Ev.tmp rfl) Ev.const ?hb) ?_; case hb => omega)
    | (refine' HL_q rfl rfl (QV_leq (Ev.tmp rfl) Ev.const) ?_)
  simp only [List.set_cons_zero, List.set_cons_succ, Int.toNat_natCast, Nat.reduceAdd, Nat.reduceMul, Int.reduceToNat, List.getElem_toArray, List.getElem_cons_zero, List.getElem_cons_succ, cells_agg, cells_int, cells_bool, cells_slice, cells_ptr]
  refine HL_nil ?_
  refine hN3 _ _ ?_
  try clear hN3 N3
  refine HC_cond rfl (fun h1 => ?_) (fun h1 => ?_)
  · skip
    refine HC_seq fun N4 hN4 => ?_
    refine HC_region ?_
    refine' HL_q rfl rfl (QV_move (Ev.tmp rfl)) ?_
    simp only [List.set_cons_zero, List.set_cons_succ, Int.toNat_natCast, Nat.reduceAdd, Nat.reduceMul, Int.reduceToNat, List.getElem_toArray, List.getElem_cons_zero, List.getElem_cons_succ, cells_agg, cells_int, cells_bool, cells_slice, cells_ptr]
    refine' HL_q rfl rfl (QV_assign (Ev.tmp rfl)) ?_
    simp only [List.set_cons_zero, List.set_cons_succ, Int.toNat_natCast, Nat.reduceAdd, Nat.reduceMul, Int.reduceToNat, List.getElem_toArray, List.getElem_cons_zero, List.getElem_cons_succ, cells_agg, cells_int, cells_bool, cells_slice, cells_ptr]
    refine HL_nil ?_
    refine hN4 _ _ ?_
    try clear hN4 N4
    have h1' : t ≤ f := by simp at h1; omega
    refine HC_ret ?_
    try simp only [thenK, blockK]
    refine kr _ _ ?_
    refine' Lv_tmp rfl rfl ?post ?le
    case post => exact .inl ⟨h1', rfl, rfl⟩
    case le => (first | with_reducible exact Le.refl | (refine Le.of ?_; (repeat (first | with_reducible exact Sp.refl | with_reducible exact Sp.nil | (apply Sp.pick; focus ((repeat (first | with_reducible exact Rm.head | with_reducible apply Rm.tail)); done)) | with_reducible refine Sp.drop ?_))))
  refine HC_skip ?_
  refine hN2 _ _ ?_
  try clear hN2 N2
  have h1' : f < t := by simp at h1; omega
  refine HC_seq fun N5 hN5 => ?_
  refine HC_region ?_
  refine' HL_q rfl rfl (QV_assign Ev.const) ?_
  simp only [List.set_cons_zero, List.set_cons_succ, Int.toNat_natCast, Nat.reduceAdd, Nat.reduceMul, Int.reduceToNat, List.getElem_toArray, List.getElem_cons_zero, List.getElem_cons_succ, cells_agg, cells_int, cells_bool, cells_slice, cells_ptr]
  refine HL_nil ?_
  refine hN5 _ _ ?_
  try clear hN5 N5
  refine HC_seq fun N6 hN6 => ?_
  refine HC_seq fun N7 hN7 => ?_
  refine HC_region ?_
  refine' HL_q rfl rfl (QV_move (Ev.tmp rfl)) ?_
  simp only [List.set_cons_zero, List.set_cons_succ, Int.toNat_natCast, Nat.reduceAdd, Nat.reduceMul, Int.reduceToNat, List.getElem_toArray, List.getElem_cons_zero, List.getElem_cons_succ, cells_agg, cells_int, cells_bool, cells_slice, cells_ptr]
  refine' HL_q rfl rfl (QV_len (Ev.tmp rfl) Try.underlying103) ?_
  simp only [List.set_cons_zero, List.set_cons_succ, Int.toNat_natCast, Nat.reduceAdd, Nat.reduceMul, Int.reduceToNat, List.getElem_toArray, List.getElem_cons_zero, List.getElem_cons_succ, cells_agg, cells_int, cells_bool, cells_slice, cells_ptr]
  refine' HL_q rfl rfl (QV_move Ev.const) ?_
  simp only [List.set_cons_zero, List.set_cons_succ, Int.toNat_natCast, Nat.reduceAdd, Nat.reduceMul, Int.reduceToNat, List.getElem_toArray, List.getElem_cons_zero, List.getElem_cons_succ, cells_agg, cells_int, cells_bool, cells_slice, cells_ptr]
  refine HL_nil ?_
  refine hN7 _ _ ?_
  try clear hN7 N7
  refine HC_free (A := own 107 2 (.slice none 0 0) 0 []) own_nil_ok own_nil_fp ?_
  refine HC_block ?_
  refine HC_loop [5, 14] [false, false, false, false, false, false, false, true, false, false, false, false, false, false, false, true, true, true, true, true, true, true, true, true, true, true, true, true, true, true, true, true, true, true, true, true, true, true, true, true, true, true, true, true, true, true, true, true, true, true, true] (fun gh vs RR => ∃ (i : Nat) (v : Value) (n : Nat) (cs : List Value) (X : List Run) (a b : Int), vs = [v, (.int .i64 i)] ∧ gh = l.length - i ∧ i ≤ l.length ∧ wi l (f, t) = X ++ wi (l.drop i) (a, b) ∧ X.length ≤ i ∧ (0 ≤ a ∧ a ≤ 4000000000000000000 ∧ 0 ≤ b ∧ b ≤ 4000000000000000000) ∧ n = X.length ∧ cs = runC X ∧ RR = own 107 2 v n cs :: pt g3 (.cells #[.int .i64 a, .int .i64 b] 107 (0, 0)) :: R) ?start ?round
  case start =>
    simp only [List.map_cons, List.map_nil, List.getD_cons_zero, List.getD_cons_succ]
    refine' ⟨_, _, ?le, 0, _, 0, [], [], _, _, rfl, rfl, Nat.zero_le _, rfl, Nat.zero_le _, ⟨hf, hf', ht, ht'⟩, rfl, rfl, rfl⟩
    case le => (first | with_reducible exact Le.refl | (refine Le.of ?_; (repeat (first | with_reducible exact Sp.refl | with_reducible exact Sp.nil | (apply Sp.pick; focus ((repeat (first | with_reducible exact Rm.head | with_reducible apply Rm.tail)); done)) | with_reducible refine Sp.drop ?_))))
  case round =>
    rintro _ _ _ u ⟨i, v, n, cs, X, a, b, rfl, rfl, hi, hw, hX, ⟨ha, ha', hb, hb'⟩, hn, hcs, rfl⟩ NL4 hL4
    simp only [setL, fill, List.set_cons_zero, List.set_cons_succ, Nat.zero_add, Nat.reduceAdd]
    refine HC_seq fun N8 hN8 => ?_
    refine HC_region ?_
    first
      | (refine' HL_q rfl rfl (QV_lss_y (Ev.tmp rfl) (Ev.tmp rfl) ?hb) ?_; case hb => omega)
      | (refine' HL_q rfl rfl (QV_lss_n (Ev.tmp rfl) (Ev.tmp rfl) ?hb) ?_; case hb => omega)
      | (refine' HL_q rfl rfl (QV_lss (Ev.tmp rfl) (Ev.tmp rfl)) ?_)
    simp only [List.set_cons_zero, List.set_cons_succ, Int.toNat_natCast, Nat.reduceAdd, Nat.reduceMul, Int.reduceToNat, List.getElem_toArray, List.getElem_cons_zero, List.getElem_cons_succ, cells_agg, cells_int, cells_bool, cells_slice, cells_ptr]
    refine HL_nil ?_
    refine hN8 _ _ ?_
    try clear hN8 N8
    refine HC_seq fun N9 hN9 => ?_
    refine HC_cond rfl (fun hc => ?_) (fun hc => ?_)
    · refine HC_skip ?_
      refine hN9 _ _ ?_
      try clear hN9 N9
      have hc' : i < l.length := by simpa using hc
      obtain ⟨ga, off, rfl⟩ := hs.addr (by omega)
      have hx := runC_drop2 l i hc'
      obtain ⟨b1, b2, b3, b4⟩ := hl.at i hc'
      rw [drop_at l i hc', wi] at hw
      generalize ea : (l[i]).1 = x at *
      generalize eb : (l[i]).2 = y at *
      have el : l[i] = (x, y) := by rw [← ea, ← eb]
      rw [el] at hw
      simp only at hw
      refine HC_seq fun N10 hN10 => ?_
      refine HC_block ?_
      refine HC_seq fun N11 hN11 => ?_
      refine HC_region ?_
      refine' HL_q rfl rfl (QV_index (Ev.tmp rfl) (Ev.tmp rfl) (indexAt_slice Try.underlying103 Try.sizeOf107 ?h0 ?h1)) ?_
      case h0 => omega
      case h1 => omega
      simp only [List.set_cons_zero, List.set_cons_succ, Int.toNat_natCast, Nat.reduceAdd, Nat.reduceMul, Int.reduceToNat, List.getElem_toArray, List.getElem_cons_zero, List.getElem_cons_succ, cells_agg, cells_int, cells_bool, cells_slice, cells_ptr]
      first
        | (refine' HL_q rfl rfl (QV_loadA (Ev.tmp rfl) Try.isAgg107 Try.sizeOf107 ?hm ?hv ?hn) ?_; (case hm => (repeat (first | exact List.Mem.head _ | assumption | exact List.mem_of_getElem? (by assumption) | exact mem_set_self (by assumption) | apply List.Mem.tail))); (case hv => (simp only [List.toList_toArray, List.take_succ_cons, List.take_zero, List.drop_succ_cons, List.drop_zero, List.take_nil]; rfl)); (case hn => rfl))
        | (refine' HL_q rfl rfl (QV_loadRA (Ev.tmp rfl) ?hp Try.isAgg107 Try.sizeOf107 ?hs ?hv ?hn) ?_; (case hs => (first | assumption | (refine' Sl.sub (by assumption) ?_; (repeat (first | with_reducible exact List.Sublist.refl _ | with_reducible apply List.Sublist.cons_cons | with_reducible apply List.Sublist.cons))))); (case hv => (first | (exact hx) | rfl)); (case hp => (first | rfl | omega)); (case hn => rfl))
      simp only [List.set_cons_zero, List.set_cons_succ, Int.toNat_natCast, Nat.reduceAdd, Nat.reduceMul, Int.reduceToNat, List.getElem_toArray, List.getElem_cons_zero, List.getElem_cons_succ, cells_agg, cells_int, cells_bool, cells_slice, cells_ptr]
      refine' HL_s rfl rfl (SO_alloc Try.zeroValue107 rfl) ?_
      rintro _ _ ⟨g7, rfl, rfl⟩
      simp only [List.set_cons_zero, List.set_cons_succ, Int.toNat_natCast, Nat.reduceAdd, Nat.reduceMul, Int.reduceToNat, List.getElem_toArray, List.getElem_cons_zero, List.getElem_cons_succ, cells_agg, cells_int, cells_bool, cells_slice, cells_ptr]
      refine' HL_s rfl rfl (SO_store (Ev.tmp rfl) (Ev.tmp rfl) Try.sizeOf107 ?hvs ?hn ?h1 ?hm ?hfit) ?_
      case hvs => rfl
      case hn => rfl
      case h1 => rfl
      case hm => (repeat (first | with_reducible exact Upd.head | exact Upd.at_ (by assumption) | exact Upd.set (by assumption) | apply Upd.tail))
      case hfit => simp
      rintro _ _ ⟨rfl, rfl⟩
      simp only [spl, List.set_cons_zero, List.set_cons_succ, List.toList_toArray, List.take_succ_cons, List.take_zero, List.drop_succ_cons, List.drop_zero, List.nil_append, List.cons_append, List.append_nil, List.length_cons, List.length_nil, Nat.zero_add, Nat.reduceAdd, List.take_nil, List.drop_nil]
      refine HL_nil ?_
      refine hN11 _ _ ?_
      try clear hN11 N11
      refine HC_block ?_
      refine HC_seq fun N12 hN12 => ?_
      refine HC_region ?_
      refine' HL_q rfl rfl (QV_field (Ev.tmp rfl) (fld107_1 _ _)) ?_
      simp only [List.set_cons_zero, List.set_cons_succ, Int.toNat_natCast, Nat.reduceAdd, Nat.reduceMul, Int.reduceToNat, List.getElem_toArray, List.getElem_cons_zero, List.getElem_cons_succ, cells_agg, cells_int, cells_bool, cells_slice, cells_ptr]
      first
        | (refine' HL_q rfl rfl (QV_load1 (Ev.tmp rfl) Try.isAgg3 ?hm ?hv) ?_; (case hm => (repeat (first | exact List.Mem.head _ | assumption | exact List.mem_of_getElem? (by assumption) | exact mem_set_self (by assumption) | apply List.Mem.tail))); (case hv => (first | rfl | assumption)))
        | (refine' HL_q rfl rfl (QV_loadR (Ev.tmp rfl) ?hp Try.isAgg3 ?hs ?hv) ?_; (case hs => (first | assumption | (refine' Sl.sub (by assumption) ?_; (repeat (first | with_reducible exact List.Sublist.refl _ | with_reducible apply List.Sublist.cons_cons | with_reducible apply List.Sublist.cons))))); (case hv => (first  | rfl | assumption)); (case hp => (first | rfl | omega)))
      simp only [List.set_cons_zero, List.set_cons_succ, Int.toNat_natCast, Nat.reduceAdd, Nat.reduceMul, Int.reduceToNat, List.getElem_toArray, List.getElem_cons_zero, List.getElem_cons_succ, cells_agg, cells_int, cells_bool, cells_slice, cells_ptr]
      refine' HL_q rfl rfl (QV_field (Ev.tmp rfl) (fld107_0 _ _)) ?_
      simp only [List.set_cons_zero, List.set_cons_succ, Int.toNat_natCast, Nat.reduceAdd, Nat.reduceMul, Int.reduceToNat, List.getElem_toArray, List.getElem_cons_zero, List.getElem_cons_succ, cells_agg, cells_int, cells_bool, cells_slice, cells_ptr]
      first
        | (refine' HL_q rfl rfl (QV_load1 (Ev.tmp rfl) Try.isAgg3 ?hm ?hv) ?_; (case hm => (repeat (first | exact List.Mem.head _ | assumption | exact List.mem_of_getElem? (by assumption) | exact mem_set_self (by assumption) | apply List.Mem.tail))); (case hv => (first | rfl | assumption)))
        | (refine' HL_q rfl rfl (QV_loadR (Ev.tmp rfl) ?hp Try.isAgg3 ?hs ?hv) ?_; (case hs => (first | assumption | (refine' Sl.sub (by assumption) ?_; (repeat (first | with_reducible exact List.Sublist.refl _ | with_reducible apply List.Sublist.cons_cons | with_reducible apply List.Sublist.cons))))); (case hv => (first  | rfl | assumption)); (case hp => (first | rfl | omega)))
      simp only [List.set_cons_zero, List.set_cons_succ, Int.toNat_natCast, Nat.reduceAdd, Nat.reduceMul, Int.reduceToNat, List.getElem_toArray, List.getElem_cons_zero, List.getElem_cons_succ, cells_agg, cells_int, cells_bool, cells_slice, cells_ptr]
      first
        | (refine' HL_q rfl rfl (QV_lss_y (Ev.tmp rfl) (Ev.tmp rfl) ?hb) ?_; case hb => omega)
        | (refine' HL_q rfl rfl (QV_lss_n (Ev.tmp rfl) (Ev.tmp rfl) ?hb) ?_; case hb => omega)
        | (refine' HL_q rfl rfl (QV_lss (Ev.tmp rfl) (Ev.tmp rfl)) ?_)
      simp only [List.set_cons_zero, List.set_cons_succ, Int.toNat_natCast, Nat.reduceAdd, Nat.reduceMul, Int.reduceToNat, List.getElem_toArray, List.getElem_cons_zero, List.getElem_cons_succ, cells_agg, cells_int, cells_bool, cells_slice, cells_ptr]
      refine' HL_q rfl rfl (QV_assign (Ev.tmp rfl)) ?_
      simp only [List.set_cons_zero, List.set_cons_succ, Int.toNat_natCast, Nat.reduceAdd, Nat.reduceMul, Int.reduceToNat, List.getElem_toArray, List.getElem_cons_zero, List.getElem_cons_succ, cells_agg, cells_int, cells_bool, cells_slice, cells_ptr]
      refine HL_nil ?_
      refine hN12 _ _ ?_
      try clear hN12 N12
      refine HC_cond rfl (fun h8 => ?_) (fun h8 => ?_)
      · skip
        refine HC_region ?_
        refine' HL_q rfl rfl (QV_move (Ev.tmp rfl)) ?_
        simp only [List.set_cons_zero, List.set_cons_succ, Int.toNat_natCast, Nat.reduceAdd, Nat.reduceMul, Int.reduceToNat, List.getElem_toArray, List.getElem_cons_zero, List.getElem_cons_succ, cells_agg, cells_int, cells_bool, cells_slice, cells_ptr]
        first
          | (refine' HL_q rfl rfl (QV_loadA (Ev.tmp rfl) Try.isAgg107 Try.sizeOf107 ?hm ?hv ?hn) ?_; (case hm => (repeat (first | exact List.Mem.head _ | assumption | exact List.mem_of_getElem? (by assumption) | exact mem_set_self (by assumption) | apply List.Mem.tail))); (case hv => (simp only [List.toList_toArray, List.take_succ_cons, List.take_zero, List.drop_succ_cons, List.drop_zero, List.take_nil]; rfl)); (case hn => rfl))
          | (refine' HL_q rfl rfl (QV_loadRA (Ev.tmp rfl) ?hp Try.isAgg107 Try.sizeOf107 ?hs ?hv ?hn) ?_; (case hs => (first | assumption | (refine' Sl.sub (by assumption) ?_; (repeat (first | with_reducible exact List.Sublist.refl _ | with_reducible apply List.Sublist.cons_cons | with_reducible apply List.Sublist.cons))))); (case hv => (first | (exact hx) | rfl)); (case hp => (first | rfl | omega)); (case hn => rfl))
        simp only [List.set_cons_zero, List.set_cons_succ, Int.toNat_natCast, Nat.reduceAdd, Nat.reduceMul, Int.reduceToNat, List.getElem_toArray, List.getElem_cons_zero, List.getElem_cons_succ, cells_agg, cells_int, cells_bool, cells_slice, cells_ptr]
        refine' HL_s rfl rfl (SO_buildSlice (EvL.cons (Ev.tmp rfl) EvL.nil) ?hr) ?_
        case hr => intro w; first | (go_simp; done) | (go_simp; rfl) | (simp [Instr.buildSlice, run_underlying Try.underlying103, Try.sizeOf107, Try.zeroValue107, Instr.fill, newRow, Result.andThen]; rfl)
        rintro _ _ ⟨g37, rfl, rfl⟩
        simp only [List.set_cons_zero, List.set_cons_succ, Int.toNat_natCast, Nat.reduceAdd, Nat.reduceMul, Int.reduceToNat, List.getElem_toArray, List.getElem_cons_zero, List.getElem_cons_succ, cells_agg, cells_int, cells_bool, cells_slice, cells_ptr]
        refine' HL_s rfl rfl (SO_append (Ev.tmp rfl) (Ev.tmp rfl) Try.underlying103 inf107 rfl (by decide) ?hsrc ?hrep ?hb ?hb0) ?_
        case hsrc => first | (exact Sl.of_pt (by repeat (first | exact List.Mem.head _ | assumption | exact List.mem_of_getElem? (by assumption) | exact mem_set_self (by assumption) | apply List.Mem.tail)) rfl (by intro u hu; simp at hu; rcases hu with rfl | rfl <;> rfl)) | (exact Sl.of_pt (by repeat (first | exact List.Mem.head _ | assumption | exact List.mem_of_getElem? (by assumption) | exact mem_set_self (by assumption) | apply List.Mem.tail)) rfl (by intro u hu; simp at hu; subst hu; rfl)) | (first | assumption | (refine' Sl.sub (by assumption) ?_; (repeat (first | with_reducible exact List.Sublist.refl _ | with_reducible apply List.Sublist.cons_cons | with_reducible apply List.Sublist.cons))))
        case hrep => intro v'; (repeat (first | with_reducible exact Rep.head | exact Rep.at_ (by assumption) | exact Rep.set (by assumption) | apply Rep.tail))
        case hb => (try simp only [List.length_append, List.length_cons, List.length_nil]); omega
        case hb0 => (simp only [maxLen]; omega)
        rintro v38 _ rfl
        simp only [List.set_cons_zero, List.set_cons_succ, Int.toNat_natCast, Nat.reduceAdd, Nat.reduceMul, Int.reduceToNat, List.getElem_toArray, List.getElem_cons_zero, List.getElem_cons_succ, cells_agg, cells_int, cells_bool, cells_slice, cells_ptr]
        refine' HL_q rfl rfl (QV_assign (Ev.tmp rfl)) ?_
        simp only [List.set_cons_zero, List.set_cons_succ, Int.toNat_natCast, Nat.reduceAdd, Nat.reduceMul, Int.reduceToNat, List.getElem_toArray, List.getElem_cons_zero, List.getElem_cons_succ, cells_agg, cells_int, cells_bool, cells_slice, cells_ptr]
        refine HL_nil ?_
        have h8' : y < a := by simpa using h8
        rw [if_pos h8'] at hw
        simp only [thenK, blockK, reduceIte]
        refine hN10 _ _ ?_
        try clear hN10 N10
        refine HC_region ?_
        refine' HL_q rfl rfl (QV_add (Ev.tmp rfl) Ev.const ?hr) ?_
        case hr => first | exact IntWalk.i64_in _ (by omega) | exact IntWalk.u64_in _ (by omega) | exact IntWalk.u8_in _ (by omega) | exact IntWalk.u32_in _ (by omega) | exact IntWalk.i64_quo _ _ (by omega) | exact IntWalk.u64_quo _ _ (by omega) | rfl
        simp only [List.set_cons_zero, List.set_cons_succ, Int.toNat_natCast, Nat.reduceAdd, Nat.reduceMul, Int.reduceToNat, List.getElem_toArray, List.getElem_cons_zero, List.getElem_cons_succ, cells_agg, cells_int, cells_bool, cells_slice, cells_ptr]
        refine' HL_q rfl rfl (QV_move (Ev.tmp rfl)) ?_
        simp only [List.set_cons_zero, List.set_cons_succ, Int.toNat_natCast, Nat.reduceAdd, Nat.reduceMul, Int.reduceToNat, List.getElem_toArray, List.getElem_cons_zero, List.getElem_cons_succ, cells_agg, cells_int, cells_bool, cells_slice, cells_ptr]
        refine HL_nil ?_
        simp only [thenK]
        refine' againL hL4 (Gets.cons rfl (Gets.cons rfl Gets.nil)) ?lt ?ag1 ?le ⟨i + 1, _, _, _, X ++ [(x, y)], _, _, rfl, rfl, by omega, ?hw1, ?hx1, ⟨ha, ha', hb, hb'⟩, ?n1, ?cs1, rfl⟩
        case ag1 => (simp only [setL, List.set_cons_zero, List.set_cons_succ]; exact (Ag.keep (Ag.keep (Ag.keep (Ag.keep (Ag.keep (Ag.keep (Ag.keep (Ag.any (Ag.keep (Ag.keep (Ag.keep (Ag.keep (Ag.keep (Ag.keep (Ag.keep (Ag.any (Ag.any (Ag.any (Ag.any (Ag.any (Ag.any (Ag.any (Ag.any (Ag.any (Ag.any (Ag.any (Ag.any (Ag.any (Ag.any (Ag.any (Ag.any (Ag.any (Ag.any (Ag.any (Ag.any (Ag.any (Ag.any (Ag.any (Ag.any (Ag.any (Ag.any (Ag.any (Ag.any (Ag.any (Ag.any (Ag.any (Ag.any (Ag.any (Ag.any (Ag.any (Ag.any Ag.nil))))))))))))))))))))))))))))))))))))))))))))))))))))
        case le => (first | with_reducible exact Le.refl | (refine Le.of ?_; (repeat (first | with_reducible exact Sp.refl | with_reducible exact Sp.nil | (apply Sp.pick; focus ((repeat (first | with_reducible exact Rm.head | with_reducible apply Rm.tail)); done)) | with_reducible refine Sp.drop ?_))))
        case lt => omega
        case hw1 => rw [hw]; simp
        case hx1 => simp; omega
        case n1 => simp [hn]
        case cs1 => simp [hcs, runC]
      have h8' : ¬ y < a := by simpa using h8
      rw [if_neg h8'] at hw
      refine HC_seq fun N13 hN13 => ?_
      refine HC_region ?_
      refine' HL_q rfl rfl (QV_field (Ev.tmp rfl) (fld107_0 _ _)) ?_
      simp only [List.set_cons_zero, List.set_cons_succ, Int.toNat_natCast, Nat.reduceAdd, Nat.reduceMul, Int.reduceToNat, List.getElem_toArray, List.getElem_cons_zero, List.getElem_cons_succ, cells_agg, cells_int, cells_bool, cells_slice, cells_ptr]
      first
        | (refine' HL_q rfl rfl (QV_load1 (Ev.tmp rfl) Try.isAgg3 ?hm ?hv) ?_; (case hm => (repeat (first | exact List.Mem.head _ | assumption | exact List.mem_of_getElem? (by assumption) | exact mem_set_self (by assumption) | apply List.Mem.tail))); (case hv => (first | rfl | assumption)))
        | (refine' HL_q rfl rfl (QV_loadR (Ev.tmp rfl) ?hp Try.isAgg3 ?hs ?hv) ?_; (case hs => (first | assumption | (refine' Sl.sub (by assumption) ?_; (repeat (first | with_reducible exact List.Sublist.refl _ | with_reducible apply List.Sublist.cons_cons | with_reducible apply List.Sublist.cons))))); (case hv => (first  | rfl | assumption)); (case hp => (first | rfl | omega)))
      simp only [List.set_cons_zero, List.set_cons_succ, Int.toNat_natCast, Nat.reduceAdd, Nat.reduceMul, Int.reduceToNat, List.getElem_toArray, List.getElem_cons_zero, List.getElem_cons_succ, cells_agg, cells_int, cells_bool, cells_slice, cells_ptr]
      refine' HL_q rfl rfl (QV_field (Ev.tmp rfl) (fld107_1 _ _)) ?_
      simp only [List.set_cons_zero, List.set_cons_succ, Int.toNat_natCast, Nat.reduceAdd, Nat.reduceMul, Int.reduceToNat, List.getElem_toArray, List.getElem_cons_zero, List.getElem_cons_succ, cells_agg, cells_int, cells_bool, cells_slice, cells_ptr]
      first
        | (refine' HL_q rfl rfl (QV_load1 (Ev.tmp rfl) Try.isAgg3 ?hm ?hv) ?_; (case hm => (repeat (first | exact List.Mem.head _ | assumption | exact List.mem_of_getElem? (by assumption) | exact mem_set_self (by assumption) | apply List.Mem.tail))); (case hv => (first | rfl | assumption)))
        | (refine' HL_q rfl rfl (QV_loadR (Ev.tmp rfl) ?hp Try.isAgg3 ?hs ?hv) ?_; (case hs => (first | assumption | (refine' Sl.sub (by assumption) ?_; (repeat (first | with_reducible exact List.Sublist.refl _ | with_reducible apply List.Sublist.cons_cons | with_reducible apply List.Sublist.cons))))); (case hv => (first  | rfl | assumption)); (case hp => (first | rfl | omega)))
      simp only [List.set_cons_zero, List.set_cons_succ, Int.toNat_natCast, Nat.reduceAdd, Nat.reduceMul, Int.reduceToNat, List.getElem_toArray, List.getElem_cons_zero, List.getElem_cons_succ, cells_agg, cells_int, cells_bool, cells_slice, cells_ptr]
      first
        | (refine' HL_q rfl rfl (QV_gtr_y (Ev.tmp rfl) (Ev.tmp rfl) ?hb) ?_; case hb => omega)
        | (refine' HL_q rfl rfl (QV_gtr_n (Ev.tmp rfl) (Ev.tmp rfl) ?hb) ?_; case hb => omega)
        | (refine' HL_q rfl rfl (QV_gtr (Ev.tmp rfl) (Ev.tmp rfl)) ?_)
      simp only [List.set_cons_zero, List.set_cons_succ, Int.toNat_natCast, Nat.reduceAdd, Nat.reduceMul, Int.reduceToNat, List.getElem_toArray, List.getElem_cons_zero, List.getElem_cons_succ, cells_agg, cells_int, cells_bool, cells_slice, cells_ptr]
      refine' HL_q rfl rfl (QV_assign (Ev.tmp rfl)) ?_
      simp only [List.set_cons_zero, List.set_cons_succ, Int.toNat_natCast, Nat.reduceAdd, Nat.reduceMul, Int.reduceToNat, List.getElem_toArray, List.getElem_cons_zero, List.getElem_cons_succ, cells_agg, cells_int, cells_bool, cells_slice, cells_ptr]
      refine HL_nil ?_
      refine hN13 _ _ ?_
      try clear hN13 N13
      refine HC_cond rfl (fun h10 => ?_) (fun h10 => ?_)
      · skip
        refine HC_seq fun N14 hN14 => ?_
        refine HC_region ?_
        refine' HL_q rfl rfl (QV_move (Ev.tmp rfl)) ?_
        simp only [List.set_cons_zero, List.set_cons_succ, Int.toNat_natCast, Nat.reduceAdd, Nat.reduceMul, Int.reduceToNat, List.getElem_toArray, List.getElem_cons_zero, List.getElem_cons_succ, cells_agg, cells_int, cells_bool, cells_slice, cells_ptr]
        first
          | (refine' HL_q rfl rfl (QV_loadA (Ev.tmp rfl) Try.isAgg107 Try.sizeOf107 ?hm ?hv ?hn) ?_; (case hm => (repeat (first | exact List.Mem.head _ | assumption | exact List.mem_of_getElem? (by assumption) | exact mem_set_self (by assumption) | apply List.Mem.tail))); (case hv => (simp only [List.toList_toArray, List.take_succ_cons, List.take_zero, List.drop_succ_cons, List.drop_zero, List.take_nil]; rfl)); (case hn => rfl))
          | (refine' HL_q rfl rfl (QV_loadRA (Ev.tmp rfl) ?hp Try.isAgg107 Try.sizeOf107 ?hs ?hv ?hn) ?_; (case hs => (first | assumption | (refine' Sl.sub (by assumption) ?_; (repeat (first | with_reducible exact List.Sublist.refl _ | with_reducible apply List.Sublist.cons_cons | with_reducible apply List.Sublist.cons))))); (case hv => (first | (exact hx) | rfl)); (case hp => (first | rfl | omega)); (case hn => rfl))
        simp only [List.set_cons_zero, List.set_cons_succ, Int.toNat_natCast, Nat.reduceAdd, Nat.reduceMul, Int.reduceToNat, List.getElem_toArray, List.getElem_cons_zero, List.getElem_cons_succ, cells_agg, cells_int, cells_bool, cells_slice, cells_ptr]
        refine' HL_s rfl rfl (SO_buildSlice (EvL.cons (Ev.tmp rfl) EvL.nil) ?hr) ?_
        case hr => intro w; first | (go_simp; done) | (go_simp; rfl) | (simp [Instr.buildSlice, run_underlying Try.underlying103, Try.sizeOf107, Try.zeroValue107, Instr.fill, newRow, Result.andThen]; rfl)
        rintro _ _ ⟨g47, rfl, rfl⟩
        simp only [List.set_cons_zero, List.set_cons_succ, Int.toNat_natCast, Nat.reduceAdd, Nat.reduceMul, Int.reduceToNat, List.getElem_toArray, List.getElem_cons_zero, List.getElem_cons_succ, cells_agg, cells_int, cells_bool, cells_slice, cells_ptr]
        refine' HL_s rfl rfl (SO_append (Ev.tmp rfl) (Ev.tmp rfl) Try.underlying103 inf107 rfl (by decide) ?hsrc ?hrep ?hb ?hb0) ?_
        case hsrc => first | (exact Sl.of_pt (by repeat (first | exact List.Mem.head _ | assumption | exact List.mem_of_getElem? (by assumption) | exact mem_set_self (by assumption) | apply List.Mem.tail)) rfl (by intro u hu; simp at hu; rcases hu with rfl | rfl <;> rfl)) | (exact Sl.of_pt (by repeat (first | exact List.Mem.head _ | assumption | exact List.mem_of_getElem? (by assumption) | exact mem_set_self (by assumption) | apply List.Mem.tail)) rfl (by intro u hu; simp at hu; subst hu; rfl)) | (first | assumption | (refine' Sl.sub (by assumption) ?_; (repeat (first | with_reducible exact List.Sublist.refl _ | with_reducible apply List.Sublist.cons_cons | with_reducible apply List.Sublist.cons))))
        case hrep => intro v'; (repeat (first | with_reducible exact Rep.head | exact Rep.at_ (by assumption) | exact Rep.set (by assumption) | apply Rep.tail))
        case hb => (try simp only [List.length_append, List.length_cons, List.length_nil]); omega
        case hb0 => (simp only [maxLen]; omega)
        rintro v48 _ rfl
        simp only [List.set_cons_zero, List.set_cons_succ, Int.toNat_natCast, Nat.reduceAdd, Nat.reduceMul, Int.reduceToNat, List.getElem_toArray, List.getElem_cons_zero, List.getElem_cons_succ, cells_agg, cells_int, cells_bool, cells_slice, cells_ptr]
        refine' HL_q rfl rfl (QV_assign (Ev.tmp rfl)) ?_
        simp only [List.set_cons_zero, List.set_cons_succ, Int.toNat_natCast, Nat.reduceAdd, Nat.reduceMul, Int.reduceToNat, List.getElem_toArray, List.getElem_cons_zero, List.getElem_cons_succ, cells_agg, cells_int, cells_bool, cells_slice, cells_ptr]
        refine HL_nil ?_
        refine hN14 _ _ ?_
        try clear hN14 N14
        have h10' : b < x := by simpa using h10
        rw [if_pos h10'] at hw
        refine HC_region ?_
        first
          | (refine' HL_q rfl rfl (QV_loadA (Ev.tmp rfl) Try.isAgg107 Try.sizeOf107 ?hm ?hv ?hn) ?_; (case hm => (repeat (first | exact List.Mem.head _ | assumption | exact List.mem_of_getElem? (by assumption) | exact mem_set_self (by assumption) | apply List.Mem.tail))); (case hv => (simp only [List.toList_toArray, List.take_succ_cons, List.take_zero, List.drop_succ_cons, List.drop_zero, List.take_nil]; rfl)); (case hn => rfl))
          | (refine' HL_q rfl rfl (QV_loadRA (Ev.tmp rfl) ?hp Try.isAgg107 Try.sizeOf107 ?hs ?hv ?hn) ?_; (case hs => (first | assumption | (refine' Sl.sub (by assumption) ?_; (repeat (first | with_reducible exact List.Sublist.refl _ | with_reducible apply List.Sublist.cons_cons | with_reducible apply List.Sublist.cons))))); (case hv => (first | (exact hx) | rfl)); (case hp => (first | rfl | omega)); (case hn => rfl))
        simp only [List.set_cons_zero, List.set_cons_succ, Int.toNat_natCast, Nat.reduceAdd, Nat.reduceMul, Int.reduceToNat, List.getElem_toArray, List.getElem_cons_zero, List.getElem_cons_succ, cells_agg, cells_int, cells_bool, cells_slice, cells_ptr]
        refine' HL_s rfl rfl (SO_store (Ev.tmp rfl) (Ev.tmp rfl) Try.sizeOf107 ?hvs ?hn ?h1 ?hm ?hfit) ?_
        case hvs => rfl
        case hn => rfl
        case h1 => rfl
        case hm => (repeat (first | with_reducible exact Upd.head | exact Upd.at_ (by assumption) | exact Upd.set (by assumption) | apply Upd.tail))
        case hfit => simp
        rintro _ _ ⟨rfl, rfl⟩
        simp only [spl, List.set_cons_zero, List.set_cons_succ, List.toList_toArray, List.take_succ_cons, List.take_zero, List.drop_succ_cons, List.drop_zero, List.nil_append, List.cons_append, List.append_nil, List.length_cons, List.length_nil, Nat.zero_add, Nat.reduceAdd, List.take_nil, List.drop_nil]
        refine HL_nil ?_
        simp only [thenK, blockK, reduceIte]
        refine hN10 _ _ ?_
        try clear hN10 N10
        refine HC_region ?_
        refine' HL_q rfl rfl (QV_add (Ev.tmp rfl) Ev.const ?hr) ?_
        case hr => first | exact IntWalk.i64_in _ (by omega) | exact IntWalk.u64_in _ (by omega) | exact IntWalk.u8_in _ (by omega) | exact IntWalk.u32_in _ (by omega) | exact IntWalk.i64_quo _ _ (by omega) | exact IntWalk.u64_quo _ _ (by omega) | rfl
        simp only [List.set_cons_zero, List.set_cons_succ, Int.toNat_natCast, Nat.reduceAdd, Nat.reduceMul, Int.reduceToNat, List.getElem_toArray, List.getElem_cons_zero, List.getElem_cons_succ, cells_agg, cells_int, cells_bool, cells_slice, cells_ptr]
        refine' HL_q rfl rfl (QV_move (Ev.tmp rfl)) ?_
        simp only [List.set_cons_zero, List.set_cons_succ, Int.toNat_natCast, Nat.reduceAdd, Nat.reduceMul, Int.reduceToNat, List.getElem_toArray, List.getElem_cons_zero, List.getElem_cons_succ, cells_agg, cells_int, cells_bool, cells_slice, cells_ptr]
        refine HL_nil ?_
        simp only [thenK]
        refine' againL hL4 (Gets.cons rfl (Gets.cons rfl Gets.nil)) ?lt ?ag2 ?le ⟨i + 1, _, _, _, X ++ [(a, b)], _, _, rfl, rfl, by omega, ?hw2, ?hx2, ⟨b1, b2, b3, b4⟩, ?n2, ?cs2, rfl⟩
        case ag2 => (simp only [setL, List.set_cons_zero, List.set_cons_succ]; exact (Ag.keep (Ag.keep (Ag.keep (Ag.keep (Ag.keep (Ag.keep (Ag.keep (Ag.any (Ag.keep (Ag.keep (Ag.keep (Ag.keep (Ag.keep (Ag.keep (Ag.keep (Ag.any (Ag.any (Ag.any (Ag.any (Ag.any (Ag.any (Ag.any (Ag.any (Ag.any (Ag.any (Ag.any (Ag.any (Ag.any (Ag.any (Ag.any (Ag.any (Ag.any (Ag.any (Ag.any (Ag.any (Ag.any (Ag.any (Ag.any (Ag.any (Ag.any (Ag.any (Ag.any (Ag.any (Ag.any (Ag.any (Ag.any (Ag.any (Ag.any (Ag.any (Ag.any (Ag.any Ag.nil))))))))))))))))))))))))))))))))))))))))))))))))))))
        case le => (first | with_reducible exact Le.refl | (refine Le.of ?_; (repeat (first | with_reducible exact Sp.refl | with_reducible exact Sp.nil | (apply Sp.pick; focus ((repeat (first | with_reducible exact Rm.head | with_reducible apply Rm.tail)); done)) | with_reducible refine Sp.drop ?_))))
        case lt => omega
        case hw2 => rw [hw]; simp
        case hx2 => simp; omega
        case n2 => simp [hn]
        case cs2 => simp [hcs, runC]
      · skip
        refine HC_region ?_
        refine' HL_q rfl rfl (QV_field (Ev.tmp rfl) (fld107_0 _ _)) ?_
        simp only [List.set_cons_zero, List.set_cons_succ, Int.toNat_natCast, Nat.reduceAdd, Nat.reduceMul, Int.reduceToNat, List.getElem_toArray, List.getElem_cons_zero, List.getElem_cons_succ, cells_agg, cells_int, cells_bool, cells_slice, cells_ptr]
        first
          | (refine' HL_q rfl rfl (QV_load1 (Ev.tmp rfl) Try.isAgg3 ?hm ?hv) ?_; (case hm => (repeat (first | exact List.Mem.head _ | assumption | exact List.mem_of_getElem? (by assumption) | exact mem_set_self (by assumption) | apply List.Mem.tail))); (case hv => (first | rfl | assumption)))
          | (refine' HL_q rfl rfl (QV_loadR (Ev.tmp rfl) ?hp Try.isAgg3 ?hs ?hv) ?_; (case hs => (first | assumption | (refine' Sl.sub (by assumption) ?_; (repeat (first | with_reducible exact List.Sublist.refl _ | with_reducible apply List.Sublist.cons_cons | with_reducible apply List.Sublist.cons))))); (case hv => (first  | rfl | assumption)); (case hp => (first | rfl | omega)))
        simp only [List.set_cons_zero, List.set_cons_succ, Int.toNat_natCast, Nat.reduceAdd, Nat.reduceMul, Int.reduceToNat, List.getElem_toArray, List.getElem_cons_zero, List.getElem_cons_succ, cells_agg, cells_int, cells_bool, cells_slice, cells_ptr]
        refine' HL_q rfl rfl (QV_field (Ev.tmp rfl) (fld107_0 _ _)) ?_
        simp only [List.set_cons_zero, List.set_cons_succ, Int.toNat_natCast, Nat.reduceAdd, Nat.reduceMul, Int.reduceToNat, List.getElem_toArray, List.getElem_cons_zero, List.getElem_cons_succ, cells_agg, cells_int, cells_bool, cells_slice, cells_ptr]
        first
          | (refine' HL_q rfl rfl (QV_load1 (Ev.tmp rfl) Try.isAgg3 ?hm ?hv) ?_; (case hm => (repeat (first | exact List.Mem.head _ | assumption | exact List.mem_of_getElem? (by assumption) | exact mem_set_self (by assumption) | apply List.Mem.tail))); (case hv => (first | rfl | assumption)))
          | (refine' HL_q rfl rfl (QV_loadR (Ev.tmp rfl) ?hp Try.isAgg3 ?hs ?hv) ?_; (case hs => (first | assumption | (refine' Sl.sub (by assumption) ?_; (repeat (first | with_reducible exact List.Sublist.refl _ | with_reducible apply List.Sublist.cons_cons | with_reducible apply List.Sublist.cons))))); (case hv => (first  | rfl | assumption)); (case hp => (first | rfl | omega)))
        simp only [List.set_cons_zero, List.set_cons_succ, Int.toNat_natCast, Nat.reduceAdd, Nat.reduceMul, Int.reduceToNat, List.getElem_toArray, List.getElem_cons_zero, List.getElem_cons_succ, cells_agg, cells_int, cells_bool, cells_slice, cells_ptr]
        refine' HL_q rfl rfl (QV_min2 (Ev.tmp rfl) (Ev.tmp rfl)) ?_
        simp only [List.set_cons_zero, List.set_cons_succ, Int.toNat_natCast, Nat.reduceAdd, Nat.reduceMul, Int.reduceToNat, List.getElem_toArray, List.getElem_cons_zero, List.getElem_cons_succ, cells_agg, cells_int, cells_bool, cells_slice, cells_ptr]
        refine' HL_q rfl rfl (QV_field (Ev.tmp rfl) (fld107_1 _ _)) ?_
        simp only [List.set_cons_zero, List.set_cons_succ, Int.toNat_natCast, Nat.reduceAdd, Nat.reduceMul, Int.reduceToNat, List.getElem_toArray, List.getElem_cons_zero, List.getElem_cons_succ, cells_agg, cells_int, cells_bool, cells_slice, cells_ptr]
        first
          | (refine' HL_q rfl rfl (QV_load1 (Ev.tmp rfl) Try.isAgg3 ?hm ?hv) ?_; (case hm => (repeat (first | exact List.Mem.head _ | assumption | exact List.mem_of_getElem? (by assumption) | exact mem_set_self (by assumption) | apply List.Mem.tail))); (case hv => (first | rfl | assumption)))
          | (refine' HL_q rfl rfl (QV_loadR (Ev.tmp rfl) ?hp Try.isAgg3 ?hs ?hv) ?_; (case hs => (first | assumption | (refine' Sl.sub (by assumption) ?_; (repeat (first | with_reducible exact List.Sublist.refl _ | with_reducible apply List.Sublist.cons_cons | with_reducible apply List.Sublist.cons))))); (case hv => (first  | rfl | assumption)); (case hp => (first | rfl | omega)))
        simp only [List.set_cons_zero, List.set_cons_succ, Int.toNat_natCast, Nat.reduceAdd, Nat.reduceMul, Int.reduceToNat, List.getElem_toArray, List.getElem_cons_zero, List.getElem_cons_succ, cells_agg, cells_int, cells_bool, cells_slice, cells_ptr]
        refine' HL_q rfl rfl (QV_field (Ev.tmp rfl) (fld107_1 _ _)) ?_
        simp only [List.set_cons_zero, List.set_cons_succ, Int.toNat_natCast, Nat.reduceAdd, Nat.reduceMul, Int.reduceToNat, List.getElem_toArray, List.getElem_cons_zero, List.getElem_cons_succ, cells_agg, cells_int, cells_bool, cells_slice, cells_ptr]
        first
          | (refine' HL_q rfl rfl (QV_load1 (Ev.tmp rfl) Try.isAgg3 ?hm ?hv) ?_; (case hm => (repeat (first | exact List.Mem.head _ | assumption | exact List.mem_of_getElem? (by assumption) | exact mem_set_self (by assumption) | apply List.Mem.tail))); (case hv => (first | rfl | assumption)))
          | (refine' HL_q rfl rfl (QV_loadR (Ev.tmp rfl) ?hp Try.isAgg3 ?hs ?hv) ?_; (case hs => (first | assumption | (refine' Sl.sub (by assumption) ?_; (repeat (first | with_reducible exact List.Sublist.refl _ | with_reducible apply List.Sublist.cons_cons | with_reducible apply List.Sublist.cons))))); (case hv => (first  | rfl | assumption)); (case hp => (first | rfl | omega)))
        simp only [List.set_cons_zero, List.set_cons_succ, Int.toNat_natCast, Nat.reduceAdd, Nat.reduceMul, Int.reduceToNat, List.getElem_toArray, List.getElem_cons_zero, List.getElem_cons_succ, cells_agg, cells_int, cells_bool, cells_slice, cells_ptr]
        refine' HL_q rfl rfl (QV_max2 (Ev.tmp rfl) (Ev.tmp rfl)) ?_
        simp only [List.set_cons_zero, List.set_cons_succ, Int.toNat_natCast, Nat.reduceAdd, Nat.reduceMul, Int.reduceToNat, List.getElem_toArray, List.getElem_cons_zero, List.getElem_cons_succ, cells_agg, cells_int, cells_bool, cells_slice, cells_ptr]
        refine' HL_q rfl rfl (QV_buildS (EvL.cons (Ev.tmp rfl) (EvL.cons (Ev.tmp rfl) EvL.nil)) Try.zeroValue107 Try.underlying107 (plc107 _ Try.underlying107) rfl) ?_
        simp only [putAll, offOf, List.map_cons, List.map_nil, List.zip_cons_cons, List.zip_nil_left, List.zip_nil_right, List.getElem?_cons_zero, List.getElem?_cons_succ, List.set_cons_zero, List.set_cons_succ, Int.toNat_natCast, Nat.reduceAdd, Nat.reduceMul, Int.reduceToNat, List.getElem_toArray, List.getElem_cons_zero, List.getElem_cons_succ, cells_agg, cells_int, cells_bool, cells_slice, cells_ptr]
        refine' HL_s rfl rfl (SO_store (Ev.tmp rfl) (Ev.tmp rfl) Try.sizeOf107 ?hvs ?hn ?h1 ?hm ?hfit) ?_
        case hvs => rfl
        case hn => rfl
        case h1 => rfl
        case hm => (repeat (first | with_reducible exact Upd.head | exact Upd.at_ (by assumption) | exact Upd.set (by assumption) | apply Upd.tail))
        case hfit => simp
        rintro _ _ ⟨rfl, rfl⟩
        simp only [spl, List.set_cons_zero, List.set_cons_succ, List.toList_toArray, List.take_succ_cons, List.take_zero, List.drop_succ_cons, List.drop_zero, List.nil_append, List.cons_append, List.append_nil, List.length_cons, List.length_nil, Nat.zero_add, Nat.reduceAdd, List.take_nil, List.drop_nil]
        refine HL_nil ?_
        have h10' : ¬ b < x := by simpa using h10
        rw [if_neg h10'] at hw
        simp only [thenK, blockK, reduceIte]
        refine hN10 _ _ ?_
        try clear hN10 N10
        refine HC_region ?_
        refine' HL_q rfl rfl (QV_add (Ev.tmp rfl) Ev.const ?hr) ?_
        case hr => first | exact IntWalk.i64_in _ (by omega) | exact IntWalk.u64_in _ (by omega) | exact IntWalk.u8_in _ (by omega) | exact IntWalk.u32_in _ (by omega) | exact IntWalk.i64_quo _ _ (by omega) | exact IntWalk.u64_quo _ _ (by omega) | rfl
        simp only [List.set_cons_zero, List.set_cons_succ, Int.toNat_natCast, Nat.reduceAdd, Nat.reduceMul, Int.reduceToNat, List.getElem_toArray, List.getElem_cons_zero, List.getElem_cons_succ, cells_agg, cells_int, cells_bool, cells_slice, cells_ptr]
        refine' HL_q rfl rfl (QV_move (Ev.tmp rfl)) ?_
        simp only [List.set_cons_zero, List.set_cons_succ, Int.toNat_natCast, Nat.reduceAdd, Nat.reduceMul, Int.reduceToNat, List.getElem_toArray, List.getElem_cons_zero, List.getElem_cons_succ, cells_agg, cells_int, cells_bool, cells_slice, cells_ptr]
        refine HL_nil ?_
        simp only [thenK]
        refine' againL hL4 (Gets.cons rfl (Gets.cons rfl Gets.nil)) ?lt ?ag3 ?le ⟨i + 1, _, _, _, X, min x a, max y b, rfl, rfl, by omega, hw, by omega, (by omega), hn, hcs, rfl⟩
        case ag3 => (simp only [setL, List.set_cons_zero, List.set_cons_succ]; exact (Ag.keep (Ag.keep (Ag.keep (Ag.keep (Ag.keep (Ag.keep (Ag.keep (Ag.any (Ag.keep (Ag.keep (Ag.keep (Ag.keep (Ag.keep (Ag.keep (Ag.keep (Ag.any (Ag.any (Ag.any (Ag.any (Ag.any (Ag.any (Ag.any (Ag.any (Ag.any (Ag.any (Ag.any (Ag.any (Ag.any (Ag.any (Ag.any (Ag.any (Ag.any (Ag.any (Ag.any (Ag.any (Ag.any (Ag.any (Ag.any (Ag.any (Ag.any (Ag.any (Ag.any (Ag.any (Ag.any (Ag.any (Ag.any (Ag.any (Ag.any (Ag.any (Ag.any (Ag.any Ag.nil))))))))))))))))))))))))))))))))))))))))))))))))))))
        case le => (first | with_reducible exact Le.refl | (refine Le.of ?_; (repeat (first | with_reducible exact Sp.refl | with_reducible exact Sp.nil | (apply Sp.pick; focus ((repeat (first | with_reducible exact Rm.head | with_reducible apply Rm.tail)); done)) | with_reducible refine Sp.drop ?_))))
        case lt => omega
    · refine HC_exit ?_
      simp only [thenK, blockK, reduceIte]
      have hc' : i = l.length := by simp at hc; omega
      subst hc'
      rw [List.drop_length, wi] at hw
      have hwl := wi_len l (f, t)
      refine hN6 _ _ ?_
      try clear hN6 N6
      refine HC_seq fun N15 hN15 => ?_
      refine HC_region ?_
      refine' HL_q rfl rfl (QV_move (Ev.tmp rfl)) ?_
      simp only [List.set_cons_zero, List.set_cons_succ, Int.toNat_natCast, Nat.reduceAdd, Nat.reduceMul, Int.reduceToNat, List.getElem_toArray, List.getElem_cons_zero, List.getElem_cons_succ, cells_agg, cells_int, cells_bool, cells_slice, cells_ptr]
      first
        | (refine' HL_q rfl rfl (QV_loadA (Ev.tmp rfl) Try.isAgg107 Try.sizeOf107 ?hm ?hv ?hn) ?_; (case hm => (repeat (first | exact List.Mem.head _ | assumption | exact List.mem_of_getElem? (by assumption) | exact mem_set_self (by assumption) | apply List.Mem.tail))); (case hv => (simp only [List.toList_toArray, List.take_succ_cons, List.take_zero, List.drop_succ_cons, List.drop_zero, List.take_nil]; rfl)); (case hn => rfl))
        | (refine' HL_q rfl rfl (QV_loadRA (Ev.tmp rfl) ?hp Try.isAgg107 Try.sizeOf107 ?hs ?hv ?hn) ?_; (case hs => (first | assumption | (refine' Sl.sub (by assumption) ?_; (repeat (first | with_reducible exact List.Sublist.refl _ | with_reducible apply List.Sublist.cons_cons | with_reducible apply List.Sublist.cons))))); (case hv => (first | (exact hx) | rfl)); (case hp => (first | rfl | omega)); (case hn => rfl))
      simp only [List.set_cons_zero, List.set_cons_succ, Int.toNat_natCast, Nat.reduceAdd, Nat.reduceMul, Int.reduceToNat, List.getElem_toArray, List.getElem_cons_zero, List.getElem_cons_succ, cells_agg, cells_int, cells_bool, cells_slice, cells_ptr]
      refine' HL_s rfl rfl (SO_buildSlice (EvL.cons (Ev.tmp rfl) EvL.nil) ?hr) ?_
      case hr => intro w; first | (go_simp; done) | (go_simp; rfl) | (simp [Instr.buildSlice, run_underlying Try.underlying103, Try.sizeOf107, Try.zeroValue107, Instr.fill, newRow, Result.andThen]; rfl)
      rintro _ _ ⟨g53, rfl, rfl⟩
      simp only [List.set_cons_zero, List.set_cons_succ, Int.toNat_natCast, Nat.reduceAdd, Nat.reduceMul, Int.reduceToNat, List.getElem_toArray, List.getElem_cons_zero, List.getElem_cons_succ, cells_agg, cells_int, cells_bool, cells_slice, cells_ptr]
      refine' HL_s rfl rfl (SO_append (Ev.tmp rfl) (Ev.tmp rfl) Try.underlying103 inf107 rfl (by decide) ?hsrc ?hrep ?hb ?hb0) ?_
      case hsrc => first | (exact Sl.of_pt (by repeat (first | exact List.Mem.head _ | assumption | exact List.mem_of_getElem? (by assumption) | exact mem_set_self (by assumption) | apply List.Mem.tail)) rfl (by intro u hu; simp at hu; rcases hu with rfl | rfl <;> rfl)) | (exact Sl.of_pt (by repeat (first | exact List.Mem.head _ | assumption | exact List.mem_of_getElem? (by assumption) | exact mem_set_self (by assumption) | apply List.Mem.tail)) rfl (by intro u hu; simp at hu; subst hu; rfl)) | (first | assumption | (refine' Sl.sub (by assumption) ?_; (repeat (first | with_reducible exact List.Sublist.refl _ | with_reducible apply List.Sublist.cons_cons | with_reducible apply List.Sublist.cons))))
      case hrep => intro v'; (repeat (first | with_reducible exact Rep.head | exact Rep.at_ (by assumption) | exact Rep.set (by assumption) | apply Rep.tail))
      case hb => (try simp only [List.length_append, List.length_cons, List.length_nil]); omega
      case hb0 => (simp only [maxLen]; omega)
      rintro v54 _ rfl
      simp only [List.set_cons_zero, List.set_cons_succ, Int.toNat_natCast, Nat.reduceAdd, Nat.reduceMul, Int.reduceToNat, List.getElem_toArray, List.getElem_cons_zero, List.getElem_cons_succ, cells_agg, cells_int, cells_bool, cells_slice, cells_ptr]
      refine' HL_q rfl rfl (QV_assign (Ev.tmp rfl)) ?_
      simp only [List.set_cons_zero, List.set_cons_succ, Int.toNat_natCast, Nat.reduceAdd, Nat.reduceMul, Int.reduceToNat, List.getElem_toArray, List.getElem_cons_zero, List.getElem_cons_succ, cells_agg, cells_int, cells_bool, cells_slice, cells_ptr]
      refine HL_nil ?_
      refine hN15 _ _ ?_
      try clear hN15 N15
      have e1 : (wi l (f, t)).length = n + 1 := by rw [hw, hn]; simp
      have e2 : runC (wi l (f, t)) = cs ++ [.int .i64 a, .int .i64 b] := by rw [hw, hcs, runC_append]; rfl
      rw [e1, e2] at kr
      refine HC_ret ?_
      try simp only [thenK, blockK]
      refine kr _ _ ?_
      refine' Lv_tmp rfl rfl ?post ?le
      case post => exact .inr ⟨h1', rfl⟩
      case le => (first | with_reducible exact Le.refl | (refine Le.of ?_; (repeat (first | with_reducible exact Sp.refl | with_reducible exact Sp.nil | (apply Sp.pick; focus ((repeat (first | with_reducible exact Rm.head | with_reducible apply Rm.tail)); done)) | with_reducible refine Sp.drop ?_))))
end Go.Proofs.Ytcilfoicoambhaa
