import Derived.Test.YtcilfoicoambhaaSt12
set_option linter.unusedVariables false
set_option linter.unusedSimpArgs false
set_option maxRecDepth 20000
set_option maxHeartbeats 1000000
namespace Go.Proofs.Ytcilfoicoambhaa
open Go Go.Hw Go.RowKit

variable {w0 : World} {R : List Asn}

theorem done_not {b : Nat} {id fresh credit e : Int} {bv lv cv : Value} {last : Bool} (hb : pt b (.cells (sndC id credit bv fresh lv cv last e false) 105 (0, 0)) ∈ R) (he : e ≠ 3) :
    CH Try.prog w0 44 #[.pointer (some ⟨b, 0, none⟩)] R fun v R' => v = .bool false ∧ R' = R := by
  unfold sndC at hb
  refine CH_of Try.func44 rfl fun K kn kr kp => ?_
  simp only [Try.ntmps44, List.size_toArray, List.length_cons, List.length_nil, Nat.reduceAdd, Nat.reduceSub, Array.replicate_succ, Array.replicate_zero, List.push_toArray, List.append_toArray, List.nil_append, List.cons_append]
  refine HC_seq fun N1 hN1 => ?_
  refine HC_region ?_
  refine' HL_q rfl rfl (QV_assign Ev.const) ?_
  simp only [List.set_cons_zero, List.set_cons_succ, Int.toNat_natCast, Nat.reduceAdd, Nat.reduceMul, Int.reduceToNat, List.getElem_toArray, List.getElem_cons_zero, List.getElem_cons_succ, cells_agg, cells_int, cells_bool, cells_slice, cells_ptr]
  refine HL_nil ?_
  refine hN1 _ _ ?_
  try clear hN1 N1
  refine HC_seq fun N2 hN2 => ?_
  refine HC_seq fun N3 hN3 => ?_
  refine HC_region ?_
  refine' HL_q rfl rfl (QV_move (Ev.tmp rfl)) ?_
  simp only [List.set_cons_zero, List.set_cons_succ, Int.toNat_natCast, Nat.reduceAdd, Nat.reduceMul, Int.reduceToNat, List.getElem_toArray, List.getElem_cons_zero, List.getElem_cons_succ, cells_agg, cells_int, cells_bool, cells_slice, cells_ptr]
  -- operation 1
  refine' HL_call rfl en50 (call_fn (EvL.cons (Ev.tmp rfl) EvL.nil).evs) (there_made hb rfl) ?_
  rintro _ _ ⟨rfl, rfl⟩
  simp only [List.set_cons_zero, List.set_cons_succ, Int.toNat_natCast, Nat.reduceAdd, Nat.reduceMul, Int.reduceToNat, List.getElem_toArray, List.getElem_cons_zero, List.getElem_cons_succ, cells_agg, cells_int, cells_bool, cells_slice, cells_ptr]
  refine' HL_q rfl rfl (QV_un (Ev.tmp rfl) ?hr) ?_
  case hr => intro w; first | (go_simp; done) | (go_simp; rfl)
  simp only [List.set_cons_zero, List.set_cons_succ, Int.toNat_natCast, Nat.reduceAdd, Nat.reduceMul, Int.reduceToNat, List.getElem_toArray, List.getElem_cons_zero, List.getElem_cons_succ, cells_agg, cells_int, cells_bool, cells_slice, cells_ptr]
  refine' HL_q rfl rfl (QV_move (Ev.tmp rfl)) ?_
  simp only [List.set_cons_zero, List.set_cons_succ, Int.toNat_natCast, Nat.reduceAdd, Nat.reduceMul, Int.reduceToNat, List.getElem_toArray, List.getElem_cons_zero, List.getElem_cons_succ, cells_agg, cells_int, cells_bool, cells_slice, cells_ptr]
  first
    | (refine HL_skip rfl ?_; simp only [List.set_cons_zero, List.set_cons_succ, Int.toNat_natCast, Nat.reduceAdd, Nat.reduceMul, Int.reduceToNat, List.getElem_toArray, List.getElem_cons_zero, List.getElem_cons_succ, cells_agg, cells_int, cells_bool, cells_slice, cells_ptr])
    |
      refine' HL_q rfl rfl (QV_move (Ev.tmp rfl)) ?_
      simp only [List.set_cons_zero, List.set_cons_succ, Int.toNat_natCast, Nat.reduceAdd, Nat.reduceMul, Int.reduceToNat, List.getElem_toArray, List.getElem_cons_zero, List.getElem_cons_succ, cells_agg, cells_int, cells_bool, cells_slice, cells_ptr]
  first
    | (refine HL_skip rfl ?_; simp only [List.set_cons_zero, List.set_cons_succ, Int.toNat_natCast, Nat.reduceAdd, Nat.reduceMul, Int.reduceToNat, List.getElem_toArray, List.getElem_cons_zero, List.getElem_cons_succ, cells_agg, cells_int, cells_bool, cells_slice, cells_ptr])
    |
      refine' HL_q rfl rfl (QV_nil (Ev.tmp rfl)) ?_
      simp only [List.set_cons_zero, List.set_cons_succ, Int.toNat_natCast, Nat.reduceAdd, Nat.reduceMul, Int.reduceToNat, List.getElem_toArray, List.getElem_cons_zero, List.getElem_cons_succ, cells_agg, cells_int, cells_bool, cells_slice, cells_ptr]
  first
    | (refine HL_skip rfl ?_; simp only [List.set_cons_zero, List.set_cons_succ, Int.toNat_natCast, Nat.reduceAdd, Nat.reduceMul, Int.reduceToNat, List.getElem_toArray, List.getElem_cons_zero, List.getElem_cons_succ, cells_agg, cells_int, cells_bool, cells_slice, cells_ptr])
    |
      refine' HL_q rfl rfl (QV_field (Ev.tmp rfl) (fld105_9 _ _)) ?_
      simp only [List.set_cons_zero, List.set_cons_succ, Int.toNat_natCast, Nat.reduceAdd, Nat.reduceMul, Int.reduceToNat, List.getElem_toArray, List.getElem_cons_zero, List.getElem_cons_succ, cells_agg, cells_int, cells_bool, cells_slice, cells_ptr]
  first
    | (refine HL_skip rfl ?_; simp only [List.set_cons_zero, List.set_cons_succ, Int.toNat_natCast, Nat.reduceAdd, Nat.reduceMul, Int.reduceToNat, List.getElem_toArray, List.getElem_cons_zero, List.getElem_cons_succ, cells_agg, cells_int, cells_bool, cells_slice, cells_ptr])
    |
      first
        | (refine' HL_q rfl rfl (QV_load1 (Ev.tmp rfl) Try.isAgg4 ?hm ?hv) ?_; (case hm => (repeat (first | exact List.Mem.head _ | assumption | exact List.mem_of_getElem? (by assumption) | exact mem_set_self (by assumption) | apply List.Mem.tail))); (case hv => (first | rfl | assumption)))
        | (refine' HL_q rfl rfl (QV_loadR (Ev.tmp rfl) ?hp Try.isAgg4 ?hs ?hv) ?_; (case hs => (first | assumption | (refine' Sl.sub (by assumption) ?_; (repeat (first | with_reducible exact List.Sublist.refl _ | with_reducible apply List.Sublist.cons_cons | with_reducible apply List.Sublist.cons))))); (case hv => (first  | rfl | assumption)); (case hp => (first | rfl | omega)))
      simp only [List.set_cons_zero, List.set_cons_succ, Int.toNat_natCast, Nat.reduceAdd, Nat.reduceMul, Int.reduceToNat, List.getElem_toArray, List.getElem_cons_zero, List.getElem_cons_succ, cells_agg, cells_int, cells_bool, cells_slice, cells_ptr]
  refine' HL_q rfl rfl (QV_pick (Ev.tmp rfl) Ev.const (Ev.tmp rfl)) ?_
  simp only [if_true, if_false, Bool.false_eq_true, reduceIte, List.set_cons_zero, List.set_cons_succ, Int.toNat_natCast, Nat.reduceAdd, Nat.reduceMul, Int.reduceToNat, List.getElem_toArray, List.getElem_cons_zero, List.getElem_cons_succ, cells_agg, cells_int, cells_bool, cells_slice, cells_ptr]
  refine' HL_q rfl rfl (QV_move (Ev.tmp rfl)) ?_
  simp only [List.set_cons_zero, List.set_cons_succ, Int.toNat_natCast, Nat.reduceAdd, Nat.reduceMul, Int.reduceToNat, List.getElem_toArray, List.getElem_cons_zero, List.getElem_cons_succ, cells_agg, cells_int, cells_bool, cells_slice, cells_ptr]
  first
    | (refine HL_skip rfl ?_; simp only [List.set_cons_zero, List.set_cons_succ, Int.toNat_natCast, Nat.reduceAdd, Nat.reduceMul, Int.reduceToNat, List.getElem_toArray, List.getElem_cons_zero, List.getElem_cons_succ, cells_agg, cells_int, cells_bool, cells_slice, cells_ptr])
    |
      refine' HL_q rfl rfl (QV_move (Ev.tmp rfl)) ?_
      simp only [List.set_cons_zero, List.set_cons_succ, Int.toNat_natCast, Nat.reduceAdd, Nat.reduceMul, Int.reduceToNat, List.getElem_toArray, List.getElem_cons_zero, List.getElem_cons_succ, cells_agg, cells_int, cells_bool, cells_slice, cells_ptr]
  first
    | (refine HL_skip rfl ?_; simp only [List.set_cons_zero, List.set_cons_succ, Int.toNat_natCast, Nat.reduceAdd, Nat.reduceMul, Int.reduceToNat, List.getElem_toArray, List.getElem_cons_zero, List.getElem_cons_succ, cells_agg, cells_int, cells_bool, cells_slice, cells_ptr])
    |
      refine' HL_q rfl rfl (QV_nil (Ev.tmp rfl)) ?_
      simp only [List.set_cons_zero, List.set_cons_succ, Int.toNat_natCast, Nat.reduceAdd, Nat.reduceMul, Int.reduceToNat, List.getElem_toArray, List.getElem_cons_zero, List.getElem_cons_succ, cells_agg, cells_int, cells_bool, cells_slice, cells_ptr]
  first
    | (refine HL_skip rfl ?_; simp only [List.set_cons_zero, List.set_cons_succ, Int.toNat_natCast, Nat.reduceAdd, Nat.reduceMul, Int.reduceToNat, List.getElem_toArray, List.getElem_cons_zero, List.getElem_cons_succ, cells_agg, cells_int, cells_bool, cells_slice, cells_ptr])
    |
      refine' HL_q rfl rfl (QV_field (Ev.tmp rfl) (fld105_8 _ _)) ?_
      simp only [List.set_cons_zero, List.set_cons_succ, Int.toNat_natCast, Nat.reduceAdd, Nat.reduceMul, Int.reduceToNat, List.getElem_toArray, List.getElem_cons_zero, List.getElem_cons_succ, cells_agg, cells_int, cells_bool, cells_slice, cells_ptr]
  first
    | (refine HL_skip rfl ?_; simp only [List.set_cons_zero, List.set_cons_succ, Int.toNat_natCast, Nat.reduceAdd, Nat.reduceMul, Int.reduceToNat, List.getElem_toArray, List.getElem_cons_zero, List.getElem_cons_succ, cells_agg, cells_int, cells_bool, cells_slice, cells_ptr])
    |
      first
        | (refine' HL_q rfl rfl (QV_load1 (Ev.tmp rfl) Try.isAgg3 ?hm ?hv) ?_; (case hm => (repeat (first | exact List.Mem.head _ | assumption | exact List.mem_of_getElem? (by assumption) | exact mem_set_self (by assumption) | apply List.Mem.tail))); (case hv => (first | rfl | assumption)))
        | (refine' HL_q rfl rfl (QV_loadR (Ev.tmp rfl) ?hp Try.isAgg3 ?hs ?hv) ?_; (case hs => (first | assumption | (refine' Sl.sub (by assumption) ?_; (repeat (first | with_reducible exact List.Sublist.refl _ | with_reducible apply List.Sublist.cons_cons | with_reducible apply List.Sublist.cons))))); (case hv => (first  | rfl | assumption)); (case hp => (first | rfl | omega)))
      simp only [List.set_cons_zero, List.set_cons_succ, Int.toNat_natCast, Nat.reduceAdd, Nat.reduceMul, Int.reduceToNat, List.getElem_toArray, List.getElem_cons_zero, List.getElem_cons_succ, cells_agg, cells_int, cells_bool, cells_slice, cells_ptr]
  first
    | (refine HL_skip rfl ?_; simp only [List.set_cons_zero, List.set_cons_succ, Int.toNat_natCast, Nat.reduceAdd, Nat.reduceMul, Int.reduceToNat, List.getElem_toArray, List.getElem_cons_zero, List.getElem_cons_succ, cells_agg, cells_int, cells_bool, cells_slice, cells_ptr])
    |
      first
        | (refine' HL_q rfl rfl (QV_neq_y (Ev.tmp rfl) Ev.const ?hb) ?_; case hb => omega)
        | (refine' HL_q rfl rfl (QV_neq_n (Ev.tmp rfl) Ev.const ?hb) ?_; case hb => omega)
        | (refine' HL_q rfl rfl (QV_neq (Ev.tmp rfl) Ev.const) ?_)
      simp only [List.set_cons_zero, List.set_cons_succ, Int.toNat_natCast, Nat.reduceAdd, Nat.reduceMul, Int.reduceToNat, List.getElem_toArray, List.getElem_cons_zero, List.getElem_cons_succ, cells_agg, cells_int, cells_bool, cells_slice, cells_ptr]
  refine' HL_q rfl rfl (QV_pick (Ev.tmp rfl) Ev.const (Ev.tmp rfl)) ?_
  simp only [if_true, if_false, Bool.false_eq_true, reduceIte, List.set_cons_zero, List.set_cons_succ, Int.toNat_natCast, Nat.reduceAdd, Nat.reduceMul, Int.reduceToNat, List.getElem_toArray, List.getElem_cons_zero, List.getElem_cons_succ, cells_agg, cells_int, cells_bool, cells_slice, cells_ptr]
  refine HL_nil ?_
  refine hN3 _ _ ?_
  try clear hN3 N3
  refine HC_true rfl ?_
  refine HC_seq fun N4 hN4 => ?_
  refine HC_region ?_
  refine' HL_q rfl rfl (QV_assign Ev.const) ?_
  simp only [List.set_cons_zero, List.set_cons_succ, Int.toNat_natCast, Nat.reduceAdd, Nat.reduceMul, Int.reduceToNat, List.getElem_toArray, List.getElem_cons_zero, List.getElem_cons_succ, cells_agg, cells_int, cells_bool, cells_slice, cells_ptr]
  refine HL_nil ?_
  refine hN4 _ _ ?_
  try clear hN4 N4
  refine HC_ret ?_
  try simp only [thenK, blockK]
  refine kr _ _ ?_
  refine' Lv_tmp rfl rfl ?post ?le
  case post => exact ⟨rfl, rfl⟩
  case le => (first | with_reducible exact Le.refl | (refine Le.of ?_; (repeat (first | with_reducible exact Sp.refl | with_reducible exact Sp.nil | (apply Sp.pick; focus ((repeat (first | with_reducible exact Rm.head | with_reducible apply Rm.tail)); done)) | with_reducible refine Sp.drop ?_))))

theorem done_if {b : Nat} {id fresh credit : Int} {bv lv cv : Value} {last : Bool} {xs : List UInt8} {came : List Run} (hb : pt b (.cells (sndC id credit bv fresh lv cv last 3 false) 105 (0, 0)) ∈ R)
    (hbv : own 5 1 bv xs.length (u8C xs) ∈ R) (hcv : own 107 2 cv came.length (runC came) ∈ R) (hx : 0 < xs.length) (hxs : xs.length ≤ 1048576) (hnc : came.length ≤ 1000000) :
    CH Try.prog w0 44 #[.pointer (some ⟨b, 0, none⟩)] R fun v R' => v = .bool (decide (came = [(0, (xs.length : Int))])) ∧ R' = R := by
  refine CH_fact (fun w hw => own_shape hw hbv) ?_
  rintro ⟨A1, c1, rfl, hc, hc', ha⟩
  refine CH_fact (fun w hw => own_shape hw hcv) ?_
  rintro ⟨A2, c2, rfl, hc2, hc2', ha2⟩
  have hsc : Sl w0 R 2 A2 came.length (runC came) := Sl.of_own hcv (runC_length _) (runC_one _) ha2
  unfold sndC at hb
  refine CH_of Try.func44 rfl fun K kn kr kp => ?_
  simp only [Try.ntmps44, List.size_toArray, List.length_cons, List.length_nil, Nat.reduceAdd, Nat.reduceSub, Array.replicate_succ, Array.replicate_zero, List.push_toArray, List.append_toArray, List.nil_append, List.cons_append]
  refine HC_seq fun N1 hN1 => ?_
  refine HC_region ?_
  refine' HL_q rfl rfl (QV_assign Ev.const) ?_
  simp only [List.set_cons_zero, List.set_cons_succ, Int.toNat_natCast, Nat.reduceAdd, Nat.reduceMul, Int.reduceToNat, List.getElem_toArray, List.getElem_cons_zero, List.getElem_cons_succ, cells_agg, cells_int, cells_bool, cells_slice, cells_ptr]
  refine HL_nil ?_
  refine hN1 _ _ ?_
  try clear hN1 N1
  refine HC_seq fun N2 hN2 => ?_
  refine HC_seq fun N3 hN3 => ?_
  refine HC_region ?_
  refine' HL_q rfl rfl (QV_move (Ev.tmp rfl)) ?_
  simp only [List.set_cons_zero, List.set_cons_succ, Int.toNat_natCast, Nat.reduceAdd, Nat.reduceMul, Int.reduceToNat, List.getElem_toArray, List.getElem_cons_zero, List.getElem_cons_succ, cells_agg, cells_int, cells_bool, cells_slice, cells_ptr]
  -- operation 1
  refine' HL_call rfl en50 (call_fn (EvL.cons (Ev.tmp rfl) EvL.nil).evs) (there_made hb rfl) ?_
  rintro _ _ ⟨rfl, rfl⟩
  simp only [List.set_cons_zero, List.set_cons_succ, Int.toNat_natCast, Nat.reduceAdd, Nat.reduceMul, Int.reduceToNat, List.getElem_toArray, List.getElem_cons_zero, List.getElem_cons_succ, cells_agg, cells_int, cells_bool, cells_slice, cells_ptr]
  refine' HL_q rfl rfl (QV_un (Ev.tmp rfl) ?hr) ?_
  case hr => intro w; first | (go_simp; done) | (go_simp; rfl)
  simp only [List.set_cons_zero, List.set_cons_succ, Int.toNat_natCast, Nat.reduceAdd, Nat.reduceMul, Int.reduceToNat, List.getElem_toArray, List.getElem_cons_zero, List.getElem_cons_succ, cells_agg, cells_int, cells_bool, cells_slice, cells_ptr]
  refine' HL_q rfl rfl (QV_move (Ev.tmp rfl)) ?_
  simp only [List.set_cons_zero, List.set_cons_succ, Int.toNat_natCast, Nat.reduceAdd, Nat.reduceMul, Int.reduceToNat, List.getElem_toArray, List.getElem_cons_zero, List.getElem_cons_succ, cells_agg, cells_int, cells_bool, cells_slice, cells_ptr]
  first
    | (refine HL_skip rfl ?_; simp only [List.set_cons_zero, List.set_cons_succ, Int.toNat_natCast, Nat.reduceAdd, Nat.reduceMul, Int.reduceToNat, List.getElem_toArray, List.getElem_cons_zero, List.getElem_cons_succ, cells_agg, cells_int, cells_bool, cells_slice, cells_ptr])
    |
      refine' HL_q rfl rfl (QV_move (Ev.tmp rfl)) ?_
      simp only [List.set_cons_zero, List.set_cons_succ, Int.toNat_natCast, Nat.reduceAdd, Nat.reduceMul, Int.reduceToNat, List.getElem_toArray, List.getElem_cons_zero, List.getElem_cons_succ, cells_agg, cells_int, cells_bool, cells_slice, cells_ptr]
  first
    | (refine HL_skip rfl ?_; simp only [List.set_cons_zero, List.set_cons_succ, Int.toNat_natCast, Nat.reduceAdd, Nat.reduceMul, Int.reduceToNat, List.getElem_toArray, List.getElem_cons_zero, List.getElem_cons_succ, cells_agg, cells_int, cells_bool, cells_slice, cells_ptr])
    |
      refine' HL_q rfl rfl (QV_nil (Ev.tmp rfl)) ?_
      simp only [List.set_cons_zero, List.set_cons_succ, Int.toNat_natCast, Nat.reduceAdd, Nat.reduceMul, Int.reduceToNat, List.getElem_toArray, List.getElem_cons_zero, List.getElem_cons_succ, cells_agg, cells_int, cells_bool, cells_slice, cells_ptr]
  first
    | (refine HL_skip rfl ?_; simp only [List.set_cons_zero, List.set_cons_succ, Int.toNat_natCast, Nat.reduceAdd, Nat.reduceMul, Int.reduceToNat, List.getElem_toArray, List.getElem_cons_zero, List.getElem_cons_succ, cells_agg, cells_int, cells_bool, cells_slice, cells_ptr])
    |
      refine' HL_q rfl rfl (QV_field (Ev.tmp rfl) (fld105_9 _ _)) ?_
      simp only [List.set_cons_zero, List.set_cons_succ, Int.toNat_natCast, Nat.reduceAdd, Nat.reduceMul, Int.reduceToNat, List.getElem_toArray, List.getElem_cons_zero, List.getElem_cons_succ, cells_agg, cells_int, cells_bool, cells_slice, cells_ptr]
  first
    | (refine HL_skip rfl ?_; simp only [List.set_cons_zero, List.set_cons_succ, Int.toNat_natCast, Nat.reduceAdd, Nat.reduceMul, Int.reduceToNat, List.getElem_toArray, List.getElem_cons_zero, List.getElem_cons_succ, cells_agg, cells_int, cells_bool, cells_slice, cells_ptr])
    |
      first
        | (refine' HL_q rfl rfl (QV_load1 (Ev.tmp rfl) Try.isAgg4 ?hm ?hv) ?_; (case hm => (repeat (first | exact List.Mem.head _ | assumption | exact List.mem_of_getElem? (by assumption) | exact mem_set_self (by assumption) | apply List.Mem.tail))); (case hv => (first | rfl | assumption)))
        | (refine' HL_q rfl rfl (QV_loadR (Ev.tmp rfl) ?hp Try.isAgg4 ?hs ?hv) ?_; (case hs => (first | assumption | (refine' Sl.sub (by assumption) ?_; (repeat (first | with_reducible exact List.Sublist.refl _ | with_reducible apply List.Sublist.cons_cons | with_reducible apply List.Sublist.cons))))); (case hv => (first  | rfl | assumption)); (case hp => (first | rfl | omega)))
      simp only [List.set_cons_zero, List.set_cons_succ, Int.toNat_natCast, Nat.reduceAdd, Nat.reduceMul, Int.reduceToNat, List.getElem_toArray, List.getElem_cons_zero, List.getElem_cons_succ, cells_agg, cells_int, cells_bool, cells_slice, cells_ptr]
  refine' HL_q rfl rfl (QV_pick (Ev.tmp rfl) Ev.const (Ev.tmp rfl)) ?_
  simp only [if_true, if_false, Bool.false_eq_true, reduceIte, List.set_cons_zero, List.set_cons_succ, Int.toNat_natCast, Nat.reduceAdd, Nat.reduceMul, Int.reduceToNat, List.getElem_toArray, List.getElem_cons_zero, List.getElem_cons_succ, cells_agg, cells_int, cells_bool, cells_slice, cells_ptr]
  refine' HL_q rfl rfl (QV_move (Ev.tmp rfl)) ?_
  simp only [List.set_cons_zero, List.set_cons_succ, Int.toNat_natCast, Nat.reduceAdd, Nat.reduceMul, Int.reduceToNat, List.getElem_toArray, List.getElem_cons_zero, List.getElem_cons_succ, cells_agg, cells_int, cells_bool, cells_slice, cells_ptr]
  first
    | (refine HL_skip rfl ?_; simp only [List.set_cons_zero, List.set_cons_succ, Int.toNat_natCast, Nat.reduceAdd, Nat.reduceMul, Int.reduceToNat, List.getElem_toArray, List.getElem_cons_zero, List.getElem_cons_succ, cells_agg, cells_int, cells_bool, cells_slice, cells_ptr])
    |
      refine' HL_q rfl rfl (QV_move (Ev.tmp rfl)) ?_
      simp only [List.set_cons_zero, List.set_cons_succ, Int.toNat_natCast, Nat.reduceAdd, Nat.reduceMul, Int.reduceToNat, List.getElem_toArray, List.getElem_cons_zero, List.getElem_cons_succ, cells_agg, cells_int, cells_bool, cells_slice, cells_ptr]
  first
    | (refine HL_skip rfl ?_; simp only [List.set_cons_zero, List.set_cons_succ, Int.toNat_natCast, Nat.reduceAdd, Nat.reduceMul, Int.reduceToNat, List.getElem_toArray, List.getElem_cons_zero, List.getElem_cons_succ, cells_agg, cells_int, cells_bool, cells_slice, cells_ptr])
    |
      refine' HL_q rfl rfl (QV_nil (Ev.tmp rfl)) ?_
      simp only [List.set_cons_zero, List.set_cons_succ, Int.toNat_natCast, Nat.reduceAdd, Nat.reduceMul, Int.reduceToNat, List.getElem_toArray, List.getElem_cons_zero, List.getElem_cons_succ, cells_agg, cells_int, cells_bool, cells_slice, cells_ptr]
  first
    | (refine HL_skip rfl ?_; simp only [List.set_cons_zero, List.set_cons_succ, Int.toNat_natCast, Nat.reduceAdd, Nat.reduceMul, Int.reduceToNat, List.getElem_toArray, List.getElem_cons_zero, List.getElem_cons_succ, cells_agg, cells_int, cells_bool, cells_slice, cells_ptr])
    |
      refine' HL_q rfl rfl (QV_field (Ev.tmp rfl) (fld105_8 _ _)) ?_
      simp only [List.set_cons_zero, List.set_cons_succ, Int.toNat_natCast, Nat.reduceAdd, Nat.reduceMul, Int.reduceToNat, List.getElem_toArray, List.getElem_cons_zero, List.getElem_cons_succ, cells_agg, cells_int, cells_bool, cells_slice, cells_ptr]
  first
    | (refine HL_skip rfl ?_; simp only [List.set_cons_zero, List.set_cons_succ, Int.toNat_natCast, Nat.reduceAdd, Nat.reduceMul, Int.reduceToNat, List.getElem_toArray, List.getElem_cons_zero, List.getElem_cons_succ, cells_agg, cells_int, cells_bool, cells_slice, cells_ptr])
    |
      first
        | (refine' HL_q rfl rfl (QV_load1 (Ev.tmp rfl) Try.isAgg3 ?hm ?hv) ?_; (case hm => (repeat (first | exact List.Mem.head _ | assumption | exact List.mem_of_getElem? (by assumption) | exact mem_set_self (by assumption) | apply List.Mem.tail))); (case hv => (first | rfl | assumption)))
        | (refine' HL_q rfl rfl (QV_loadR (Ev.tmp rfl) ?hp Try.isAgg3 ?hs ?hv) ?_; (case hs => (first | assumption | (refine' Sl.sub (by assumption) ?_; (repeat (first | with_reducible exact List.Sublist.refl _ | with_reducible apply List.Sublist.cons_cons | with_reducible apply List.Sublist.cons))))); (case hv => (first  | rfl | assumption)); (case hp => (first | rfl | omega)))
      simp only [List.set_cons_zero, List.set_cons_succ, Int.toNat_natCast, Nat.reduceAdd, Nat.reduceMul, Int.reduceToNat, List.getElem_toArray, List.getElem_cons_zero, List.getElem_cons_succ, cells_agg, cells_int, cells_bool, cells_slice, cells_ptr]
  first
    | (refine HL_skip rfl ?_; simp only [List.set_cons_zero, List.set_cons_succ, Int.toNat_natCast, Nat.reduceAdd, Nat.reduceMul, Int.reduceToNat, List.getElem_toArray, List.getElem_cons_zero, List.getElem_cons_succ, cells_agg, cells_int, cells_bool, cells_slice, cells_ptr])
    |
      first
        | (refine' HL_q rfl rfl (QV_neq_y (Ev.tmp rfl) Ev.const ?hb) ?_; case hb => omega)
        | (refine' HL_q rfl rfl (QV_neq_n (Ev.tmp rfl) Ev.const ?hb) ?_; case hb => omega)
        | (refine' HL_q rfl rfl (QV_neq (Ev.tmp rfl) Ev.const) ?_)
      simp only [List.set_cons_zero, List.set_cons_succ, Int.toNat_natCast, Nat.reduceAdd, Nat.reduceMul, Int.reduceToNat, List.getElem_toArray, List.getElem_cons_zero, List.getElem_cons_succ, cells_agg, cells_int, cells_bool, cells_slice, cells_ptr]
  refine' HL_q rfl rfl (QV_pick (Ev.tmp rfl) Ev.const (Ev.tmp rfl)) ?_
  simp only [if_true, if_false, Bool.false_eq_true, reduceIte, List.set_cons_zero, List.set_cons_succ, Int.toNat_natCast, Nat.reduceAdd, Nat.reduceMul, Int.reduceToNat, List.getElem_toArray, List.getElem_cons_zero, List.getElem_cons_succ, cells_agg, cells_int, cells_bool, cells_slice, cells_ptr]
  refine HL_nil ?_
  refine hN3 _ _ ?_
  try clear hN3 N3
  refine HC_false rfl ?_
  refine HC_skip ?_
  refine hN2 _ _ ?_
  try clear hN2 N2
  refine HC_seq fun N5 hN5 => ?_
  refine HC_draw 21 [] _ mixed rfl ?_
  refine' DA_take (i := 0) rfl (by kernel_rfl) (fun _ _ _ _ h => (kp _ _ _ h).elim) rfl (QV_move (Ev.tmp rfl)) ?_
  simp only [List.set_cons_zero, List.set_cons_succ, Int.toNat_natCast, Nat.reduceAdd, Nat.reduceMul, Int.reduceToNat, List.getElem_toArray, List.getElem_cons_zero, List.getElem_cons_succ, cells_agg, cells_int, cells_bool, cells_slice, cells_ptr]
  refine' DA_take (i := 1) rfl (by kernel_rfl) (fun _ _ _ _ h => (kp _ _ _ h).elim) rfl (QV_nil (Ev.tmp rfl)) ?_
  simp only [List.set_cons_zero, List.set_cons_succ, Int.toNat_natCast, Nat.reduceAdd, Nat.reduceMul, Int.reduceToNat, List.getElem_toArray, List.getElem_cons_zero, List.getElem_cons_succ, cells_agg, cells_int, cells_bool, cells_slice, cells_ptr]
  refine' DA_take (i := 2) rfl (by kernel_rfl) (fun _ _ _ _ h => (kp _ _ _ h).elim) rfl (QV_field (Ev.tmp rfl) (fld105_3 _ _)) ?_
  simp only [List.set_cons_zero, List.set_cons_succ, Int.toNat_natCast, Nat.reduceAdd, Nat.reduceMul, Int.reduceToNat, List.getElem_toArray, List.getElem_cons_zero, List.getElem_cons_succ, cells_agg, cells_int, cells_bool, cells_slice, cells_ptr]
  first
    | (refine' DA_take (i := 3) rfl (by kernel_rfl) (fun _ _ _ _ h => (kp _ _ _ h).elim) rfl (QV_load1 (Ev.tmp rfl) Try.isAgg22 ?hm ?hv) ?_; (case hm => (repeat (first | exact List.Mem.head _ | assumption | exact List.mem_of_getElem? (by assumption) | exact mem_set_self (by assumption) | apply List.Mem.tail))); (case hv => (first | rfl | assumption)))
    | (refine' DA_take (i := 3) rfl (by kernel_rfl) (fun _ _ _ _ h => (kp _ _ _ h).elim) rfl (QV_loadR (Ev.tmp rfl) ?hp Try.isAgg22 ?hs ?hv) ?_; (case hs => (first | assumption | (refine' Sl.sub (by assumption) ?_; (repeat (first | with_reducible exact List.Sublist.refl _ | with_reducible apply List.Sublist.cons_cons | with_reducible apply List.Sublist.cons))))); (case hv => (first  | rfl | assumption)); (case hp => (first | rfl | omega)))
  simp only [List.set_cons_zero, List.set_cons_succ, Int.toNat_natCast, Nat.reduceAdd, Nat.reduceMul, Int.reduceToNat, List.getElem_toArray, List.getElem_cons_zero, List.getElem_cons_succ, cells_agg, cells_int, cells_bool, cells_slice, cells_ptr]
  refine' DA_take (i := 4) rfl (by kernel_rfl) (fun _ _ _ _ h => (kp _ _ _ h).elim) rfl (QV_len (Ev.tmp rfl) Try.underlying22) ?_
  simp only [List.set_cons_zero, List.set_cons_succ, Int.toNat_natCast, Nat.reduceAdd, Nat.reduceMul, Int.reduceToNat, List.getElem_toArray, List.getElem_cons_zero, List.getElem_cons_succ, cells_agg, cells_int, cells_bool, cells_slice, cells_ptr]
  first
    | (refine' DA_take (i := 5) rfl (by kernel_rfl) (fun _ _ _ _ h => (kp _ _ _ h).elim) rfl (QV_eql_y (Ev.tmp rfl) Ev.const ?hb) ?_; case hb => omega)
    | (refine' DA_take (i := 5) rfl (by kernel_rfl) (fun _ _ _ _ h => (kp _ _ _ h).elim) rfl (QV_eql_n (Ev.tmp rfl) Ev.const ?hb) ?_; case hb => omega)
    | (refine' DA_take (i := 5) rfl (by kernel_rfl) (fun _ _ _ _ h => (kp _ _ _ h).elim) rfl (QV_eql (Ev.tmp rfl) Ev.const) ?_)
  simp only [List.set_cons_zero, List.set_cons_succ, Int.toNat_natCast, Nat.reduceAdd, Nat.reduceMul, Int.reduceToNat, List.getElem_toArray, List.getElem_cons_zero, List.getElem_cons_succ, cells_agg, cells_int, cells_bool, cells_slice, cells_ptr]
  refine' DA_take (i := 6) rfl (by kernel_rfl) (fun _ _ _ _ h => (kp _ _ _ h).elim) rfl (QV_move (Ev.tmp rfl)) ?_
  simp only [List.set_cons_zero, List.set_cons_succ, Int.toNat_natCast, Nat.reduceAdd, Nat.reduceMul, Int.reduceToNat, List.getElem_toArray, List.getElem_cons_zero, List.getElem_cons_succ, cells_agg, cells_int, cells_bool, cells_slice, cells_ptr]
  first
    | (refine' DA_skip (i := 7) rfl (by kernel_rfl) (fun _ _ _ _ h => (kp _ _ _ h).elim) rfl ?_; simp only [List.set_cons_zero, List.set_cons_succ, Int.toNat_natCast, Nat.reduceAdd, Nat.reduceMul, Int.reduceToNat, List.getElem_toArray, List.getElem_cons_zero, List.getElem_cons_succ, cells_agg, cells_int, cells_bool, cells_slice, cells_ptr])
    |
      refine' DA_take (i := 7) rfl (by kernel_rfl) (fun _ _ _ _ h => (kp _ _ _ h).elim) rfl (QV_move (Ev.tmp rfl)) ?_
      simp only [List.set_cons_zero, List.set_cons_succ, Int.toNat_natCast, Nat.reduceAdd, Nat.reduceMul, Int.reduceToNat, List.getElem_toArray, List.getElem_cons_zero, List.getElem_cons_succ, cells_agg, cells_int, cells_bool, cells_slice, cells_ptr]
  first
    | (refine' DA_skip (i := 8) rfl (by kernel_rfl) (fun _ _ _ _ h => (kp _ _ _ h).elim) rfl ?_; simp only [List.set_cons_zero, List.set_cons_succ, Int.toNat_natCast, Nat.reduceAdd, Nat.reduceMul, Int.reduceToNat, List.getElem_toArray, List.getElem_cons_zero, List.getElem_cons_succ, cells_agg, cells_int, cells_bool, cells_slice, cells_ptr])
    |
      refine' DA_take (i := 8) rfl (by kernel_rfl) (fun _ _ _ _ h => (kp _ _ _ h).elim) rfl (QV_nil (Ev.tmp rfl)) ?_
      simp only [List.set_cons_zero, List.set_cons_succ, Int.toNat_natCast, Nat.reduceAdd, Nat.reduceMul, Int.reduceToNat, List.getElem_toArray, List.getElem_cons_zero, List.getElem_cons_succ, cells_agg, cells_int, cells_bool, cells_slice, cells_ptr]
  first
    | (refine' DA_skip (i := 9) rfl (by kernel_rfl) (fun _ _ _ _ h => (kp _ _ _ h).elim) rfl ?_; simp only [List.set_cons_zero, List.set_cons_succ, Int.toNat_natCast, Nat.reduceAdd, Nat.reduceMul, Int.reduceToNat, List.getElem_toArray, List.getElem_cons_zero, List.getElem_cons_succ, cells_agg, cells_int, cells_bool, cells_slice, cells_ptr])
    |
      refine' DA_take (i := 9) rfl (by kernel_rfl) (fun _ _ _ _ h => (kp _ _ _ h).elim) rfl (QV_field (Ev.tmp rfl) (fld105_6 _ _)) ?_
      simp only [List.set_cons_zero, List.set_cons_succ, Int.toNat_natCast, Nat.reduceAdd, Nat.reduceMul, Int.reduceToNat, List.getElem_toArray, List.getElem_cons_zero, List.getElem_cons_succ, cells_agg, cells_int, cells_bool, cells_slice, cells_ptr]
  first
    | (refine' DA_skip (i := 10) rfl (by kernel_rfl) (fun _ _ _ _ h => (kp _ _ _ h).elim) rfl ?_; simp only [List.set_cons_zero, List.set_cons_succ, Int.toNat_natCast, Nat.reduceAdd, Nat.reduceMul, Int.reduceToNat, List.getElem_toArray, List.getElem_cons_zero, List.getElem_cons_succ, cells_agg, cells_int, cells_bool, cells_slice, cells_ptr])
    |
      first
        | (refine' DA_take (i := 10) rfl (by kernel_rfl) (fun _ _ _ _ h => (kp _ _ _ h).elim) rfl (QV_load1 (Ev.tmp rfl) Try.isAgg103 ?hm ?hv) ?_; (case hm => (repeat (first | exact List.Mem.head _ | assumption | exact List.mem_of_getElem? (by assumption) | exact mem_set_self (by assumption) | apply List.Mem.tail))); (case hv => (first | rfl | assumption)))
        | (refine' DA_take (i := 10) rfl (by kernel_rfl) (fun _ _ _ _ h => (kp _ _ _ h).elim) rfl (QV_loadR (Ev.tmp rfl) ?hp Try.isAgg103 ?hs ?hv) ?_; (case hs => (first | assumption | (refine' Sl.sub (by assumption) ?_; (repeat (first | with_reducible exact List.Sublist.refl _ | with_reducible apply List.Sublist.cons_cons | with_reducible apply List.Sublist.cons))))); (case hv => (first  | rfl | assumption)); (case hp => (first | rfl | omega)))
      simp only [List.set_cons_zero, List.set_cons_succ, Int.toNat_natCast, Nat.reduceAdd, Nat.reduceMul, Int.reduceToNat, List.getElem_toArray, List.getElem_cons_zero, List.getElem_cons_succ, cells_agg, cells_int, cells_bool, cells_slice, cells_ptr]
  first
    | (refine' DA_skip (i := 11) rfl (by kernel_rfl) (fun _ _ _ _ h => (kp _ _ _ h).elim) rfl ?_; simp only [List.set_cons_zero, List.set_cons_succ, Int.toNat_natCast, Nat.reduceAdd, Nat.reduceMul, Int.reduceToNat, List.getElem_toArray, List.getElem_cons_zero, List.getElem_cons_succ, cells_agg, cells_int, cells_bool, cells_slice, cells_ptr])
    |
      refine' DA_take (i := 11) rfl (by kernel_rfl) (fun _ _ _ _ h => (kp _ _ _ h).elim) rfl (QV_move (Ev.tmp rfl)) ?_
      simp only [List.set_cons_zero, List.set_cons_succ, Int.toNat_natCast, Nat.reduceAdd, Nat.reduceMul, Int.reduceToNat, List.getElem_toArray, List.getElem_cons_zero, List.getElem_cons_succ, cells_agg, cells_int, cells_bool, cells_slice, cells_ptr]
  first
    | (refine' DA_skip (i := 12) rfl (by kernel_rfl) (fun _ _ _ _ h => (kp _ _ _ h).elim) rfl ?_; simp only [List.set_cons_zero, List.set_cons_succ, Int.toNat_natCast, Nat.reduceAdd, Nat.reduceMul, Int.reduceToNat, List.getElem_toArray, List.getElem_cons_zero, List.getElem_cons_succ, cells_agg, cells_int, cells_bool, cells_slice, cells_ptr])
    |
      refine' DA_take (i := 12) rfl (by kernel_rfl) (fun _ _ _ _ h => (kp _ _ _ h).elim) rfl (QV_nil (Ev.tmp rfl)) ?_
      simp only [List.set_cons_zero, List.set_cons_succ, Int.toNat_natCast, Nat.reduceAdd, Nat.reduceMul, Int.reduceToNat, List.getElem_toArray, List.getElem_cons_zero, List.getElem_cons_succ, cells_agg, cells_int, cells_bool, cells_slice, cells_ptr]
  first
    | (refine' DA_skip (i := 13) rfl (by kernel_rfl) (fun _ _ _ _ h => (kp _ _ _ h).elim) rfl ?_; simp only [List.set_cons_zero, List.set_cons_succ, Int.toNat_natCast, Nat.reduceAdd, Nat.reduceMul, Int.reduceToNat, List.getElem_toArray, List.getElem_cons_zero, List.getElem_cons_succ, cells_agg, cells_int, cells_bool, cells_slice, cells_ptr])
    |
      refine' DA_take (i := 13) rfl (by kernel_rfl) (fun _ _ _ _ h => (kp _ _ _ h).elim) rfl (QV_field (Ev.tmp rfl) (fld105_3 _ _)) ?_
      simp only [List.set_cons_zero, List.set_cons_succ, Int.toNat_natCast, Nat.reduceAdd, Nat.reduceMul, Int.reduceToNat, List.getElem_toArray, List.getElem_cons_zero, List.getElem_cons_succ, cells_agg, cells_int, cells_bool, cells_slice, cells_ptr]
  first
    | (refine' DA_skip (i := 14) rfl (by kernel_rfl) (fun _ _ _ _ h => (kp _ _ _ h).elim) rfl ?_; simp only [List.set_cons_zero, List.set_cons_succ, Int.toNat_natCast, Nat.reduceAdd, Nat.reduceMul, Int.reduceToNat, List.getElem_toArray, List.getElem_cons_zero, List.getElem_cons_succ, cells_agg, cells_int, cells_bool, cells_slice, cells_ptr])
    |
      first
        | (refine' DA_take (i := 14) rfl (by kernel_rfl) (fun _ _ _ _ h => (kp _ _ _ h).elim) rfl (QV_load1 (Ev.tmp rfl) Try.isAgg22 ?hm ?hv) ?_; (case hm => (repeat (first | exact List.Mem.head _ | assumption | exact List.mem_of_getElem? (by assumption) | exact mem_set_self (by assumption) | apply List.Mem.tail))); (case hv => (first | rfl | assumption)))
        | (refine' DA_take (i := 14) rfl (by kernel_rfl) (fun _ _ _ _ h => (kp _ _ _ h).elim) rfl (QV_loadR (Ev.tmp rfl) ?hp Try.isAgg22 ?hs ?hv) ?_; (case hs => (first | assumption | (refine' Sl.sub (by assumption) ?_; (repeat (first | with_reducible exact List.Sublist.refl _ | with_reducible apply List.Sublist.cons_cons | with_reducible apply List.Sublist.cons))))); (case hv => (first  | rfl | assumption)); (case hp => (first | rfl | omega)))
      simp only [List.set_cons_zero, List.set_cons_succ, Int.toNat_natCast, Nat.reduceAdd, Nat.reduceMul, Int.reduceToNat, List.getElem_toArray, List.getElem_cons_zero, List.getElem_cons_succ, cells_agg, cells_int, cells_bool, cells_slice, cells_ptr]
  first
    | (refine' DA_skip (i := 15) rfl (by kernel_rfl) (fun _ _ _ _ h => (kp _ _ _ h).elim) rfl ?_; simp only [List.set_cons_zero, List.set_cons_succ, Int.toNat_natCast, Nat.reduceAdd, Nat.reduceMul, Int.reduceToNat, List.getElem_toArray, List.getElem_cons_zero, List.getElem_cons_succ, cells_agg, cells_int, cells_bool, cells_slice, cells_ptr])
    |
      refine' DA_take (i := 15) rfl (by kernel_rfl) (fun _ _ _ _ h => (kp _ _ _ h).elim) rfl (QV_len (Ev.tmp rfl) Try.underlying22) ?_
      simp only [List.set_cons_zero, List.set_cons_succ, Int.toNat_natCast, Nat.reduceAdd, Nat.reduceMul, Int.reduceToNat, List.getElem_toArray, List.getElem_cons_zero, List.getElem_cons_succ, cells_agg, cells_int, cells_bool, cells_slice, cells_ptr]
  first
    | (refine' DA_skip (i := 16) rfl (by kernel_rfl) (fun _ _ _ _ h => (kp _ _ _ h).elim) rfl ?_; simp only [List.set_cons_zero, List.set_cons_succ, Int.toNat_natCast, Nat.reduceAdd, Nat.reduceMul, Int.reduceToNat, List.getElem_toArray, List.getElem_cons_zero, List.getElem_cons_succ, cells_agg, cells_int, cells_bool, cells_slice, cells_ptr])
    |
      refine' DA_take (i := 16) rfl (by kernel_rfl) (fun _ _ _ _ h => (kp _ _ _ h).elim) rfl (QV_buildS (EvL.cons Ev.const (EvL.cons (Ev.tmp rfl) EvL.nil)) Try.zeroValue107 Try.underlying107 (plc107 _ Try.underlying107) rfl) ?_
      simp only [putAll, offOf, List.map_cons, List.map_nil, List.zip_cons_cons, List.zip_nil_left, List.zip_nil_right, List.getElem?_cons_zero, List.getElem?_cons_succ, List.set_cons_zero, List.set_cons_succ, Int.toNat_natCast, Nat.reduceAdd, Nat.reduceMul, Int.reduceToNat, List.getElem_toArray, List.getElem_cons_zero, List.getElem_cons_succ, cells_agg, cells_int, cells_bool, cells_slice, cells_ptr]
  refine DA_one (i := 17) (by kernel_rfl) ?_
  first
    | (refine HL_skip rfl ?_; simp only [List.set_cons_zero, List.set_cons_succ, Int.toNat_natCast, Nat.reduceAdd, Nat.reduceMul, Int.reduceToNat, List.getElem_toArray, List.getElem_cons_zero, List.getElem_cons_succ, cells_agg, cells_int, cells_bool, cells_slice, cells_ptr])
    |
      refine' DB_s (i := 17) rfl rfl rfl (SO_buildSlice (EvL.cons (Ev.tmp rfl) EvL.nil) ?hr) ?_
      case hr => intro w; first | (go_simp; done) | (go_simp; rfl) | (simp [Instr.buildSlice, run_underlying Try.underlying103, Try.sizeOf107, Try.zeroValue107, Instr.fill, newRow, Result.andThen]; rfl)
      rintro _ _ ⟨g36, rfl, rfl⟩
      refine ⟨_ :: _, rfl, ?_⟩
      simp only [List.set_cons_zero, List.set_cons_succ, Int.toNat_natCast, Nat.reduceAdd, Nat.reduceMul, Int.reduceToNat, List.getElem_toArray, List.getElem_cons_zero, List.getElem_cons_succ, cells_agg, cells_int, cells_bool, cells_slice, cells_ptr]
  refine DA_one (i := 18) (by kernel_rfl) ?_
  refine' DB_call (i := 18) rfl rfl en79 (call_fn (EvL.cons (Ev.tmp rfl) (EvL.cons (Ev.tmp rfl) EvL.nil)).evs) ((equal_runs (l := came) (m := [(0, (xs.length : Int))]) (hsc.sub (by repeat (first | exact List.Sublist.refl _ | apply List.Sublist.cons))) (Sl.of_pt (List.mem_cons_self ..) rfl (by intro u hu; simp at hu; rcases hu with rfl | rfl <;> rfl)) hnc (by simp))) ?_
  rintro _ _ ⟨rfl, rfl⟩
  refine ⟨_, rfl, ?_⟩
  simp only [List.set_cons_zero, List.set_cons_succ, Int.toNat_natCast, Nat.reduceAdd, Nat.reduceMul, Int.reduceToNat, List.getElem_toArray, List.getElem_cons_zero, List.getElem_cons_succ, cells_agg, cells_int, cells_bool, cells_slice, cells_ptr]
  refine' DA_take (i := 19) rfl (by kernel_rfl) (fun _ _ _ _ h => (kp _ _ _ h).elim) rfl (QV_pick (Ev.tmp rfl) Ev.const (Ev.tmp rfl)) ?_
  simp only [if_true, if_false, Bool.false_eq_true, reduceIte, List.set_cons_zero, List.set_cons_succ, Int.toNat_natCast, Nat.reduceAdd, Nat.reduceMul, Int.reduceToNat, List.getElem_toArray, List.getElem_cons_zero, List.getElem_cons_succ, cells_agg, cells_int, cells_bool, cells_slice, cells_ptr]
  refine' DA_take (i := 20) rfl (by kernel_rfl) (fun _ _ _ _ h => (kp _ _ _ h).elim) rfl (QV_assign (Ev.tmp rfl)) ?_
  simp only [List.set_cons_zero, List.set_cons_succ, Int.toNat_natCast, Nat.reduceAdd, Nat.reduceMul, Int.reduceToNat, List.getElem_toArray, List.getElem_cons_zero, List.getElem_cons_succ, cells_agg, cells_int, cells_bool, cells_slice, cells_ptr]
  refine DA_done (by kernel_rfl) ?_
  try simp only [List.nil_append, List.cons_append]
  refine hN5 _ _ ?_
  try clear hN5 N5
  refine HC_ret ?_
  try simp only [thenK, blockK]
  refine kr _ _ ?_
  refine' Lv_tmp rfl rfl ?post ?le
  case post => exact ⟨rfl, rfl⟩
  case le => (first | with_reducible exact Le.refl | (refine Le.of ?_; (repeat (first | with_reducible exact Sp.refl | with_reducible exact Sp.nil | (apply Sp.pick; focus ((repeat (first | with_reducible exact Rm.head | with_reducible apply Rm.tail)); done)) | with_reducible refine Sp.drop ?_))))
end Go.Proofs.Ytcilfoicoambhaa
