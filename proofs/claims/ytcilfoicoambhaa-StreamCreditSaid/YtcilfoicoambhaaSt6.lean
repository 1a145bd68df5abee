import Derived.Test.YtcilfoicoambhaaSt5
set_option linter.unusedVariables false
set_option linter.unusedSimpArgs false
set_option maxRecDepth 20000
set_option maxHeartbeats 1000000
namespace Go.Proofs.Ytcilfoicoambhaa
open Go Go.Hw Go.RowKit

variable {w0 : World} {R : List Asn}

/-- Lost bytes are taken. -/
theorem take_lost {b : Nat} {id credit fresh n fr f t k : Nat} {fin : Int} {bv lv cv : Value} {last : Bool} {bs : List Value} {rest : List Run}
    (hb1 : ∀ u ∈ bs, u.oneCell' = true) (hbl : bs.length ≤ 1048576) (hn : n ≤ 1000000) (hn0 : 0 < n) (hft : f < t) (ht : t ≤ bs.length) (hk : k = min n (t - f)) (hsm : Small rest) (hlen : rest.length < 1000000) :
    CH Try.prog w0 18 #[.pointer (some ⟨b, 0, none⟩), .int .i64 n, .int .u64 fr] (pt b (.cells (sndC id credit bv fresh lv cv last fin false) 105 (0, 0)) :: own 5 1 bv bs.length bs :: own 107 2 lv (rest.length + 1) (runC (((f : Int), (t : Int)) :: rest)) :: R) fun v R' =>
      ∃ gd lv', v = .tuple #[.agg (frmC id f (last && f + k == bs.length) (.slice (some ⟨gd, 0, none⟩) k k)), .bool true] ∧
        R' = pt gd (.cells ((bs.drop f).take k).toArray 5 (0, 0)) :: pt b (.cells (sndC id credit bv fresh lv' cv last (if last && f + k == bs.length && fin != 3 then 1 else fin) false) 105 (0, 0)) :: own 5 1 bv bs.length bs :: own 107 2 lv' (withoutR (((f : Int), (t : Int)) :: rest) f (f + k : Nat)).length (runC (withoutR (((f : Int), (t : Int)) :: rest) f (f + k : Nat))) :: R := by
  refine CH_fact (fun w hw => own_shape hw (List.mem_cons_of_mem _ (List.mem_cons_self ..))) ?_
  rintro ⟨A, c, rfl, hc, hc', ha⟩
  refine CH_fact (fun w hw => own_shape hw (List.mem_cons_of_mem _ (List.mem_cons_of_mem _ (List.mem_cons_self ..)))) ?_
  rintro ⟨A2, c2, rfl, hc2, hc2', ha2⟩
  obtain ⟨g2, rfl⟩ := ha2 (by omega)
  have hsl : ∀ R, own 5 1 (.slice A bs.length c) bs.length bs ∈ R → Sl w0 R 1 A bs.length bs := fun R hR => Sl.of_own hR (by simp) hb1 ha
  have hsl2 : ∀ R, own 107 2 (.slice (some ⟨g2, 0, none⟩) (rest.length + 1) c2) (rest.length + 1) (runC (((f : Int), (t : Int)) :: rest)) ∈ R → Sl w0 R 2 (some ⟨g2, 0, none⟩) (rest.length + 1) (runC (((f : Int), (t : Int)) :: rest)) :=
    fun R hR => Sl.of_own hR (by rw [runC_length]; simp) (runC_one _) (fun _ => ⟨g2, rfl⟩)
  have hk' : min (t : Int) ((f : Int) + min (n : Int) ((t : Int) - (f : Int))) = ((f + k : Nat) : Int) := by omega
  have e3 : f + k - f = k := by omega
  unfold sndC
  refine CH_of Try.func18 rfl fun K kn kr kp => ?_
  simp only [Try.ntmps18, List.size_toArray, List.length_cons, List.length_nil, Nat.reduceAdd, Nat.reduceSub, Array.replicate_succ, Array.replicate_zero, List.push_toArray, List.append_toArray, List.nil_append, List.cons_append]
  refine HC_seq fun N1 hN1 => ?_
  refine HC_region ?_
  refine' HL_s rfl rfl (SO_alloc Try.zeroValue36 rfl) ?_
  rintro _ _ ⟨g6, rfl, rfl⟩
  simp only [List.set_cons_zero, List.set_cons_succ, Int.toNat_natCast, Nat.reduceAdd, Nat.reduceMul, Int.reduceToNat, List.getElem_toArray, List.getElem_cons_zero, List.getElem_cons_succ, cells_agg, cells_int, cells_bool, cells_slice, cells_ptr]
  refine' HL_q rfl rfl (QV_assign Ev.const) ?_
  simp only [List.set_cons_zero, List.set_cons_succ, Int.toNat_natCast, Nat.reduceAdd, Nat.reduceMul, Int.reduceToNat, List.getElem_toArray, List.getElem_cons_zero, List.getElem_cons_succ, cells_agg, cells_int, cells_bool, cells_slice, cells_ptr]
  refine HL_nil ?_
  refine hN1 _ _ ?_
  try clear hN1 N1
  refine HC_seq fun N2 hN2 => ?_
  refine HC_seq fun N3 hN3 => ?_
  refine HC_region ?_
  refine' HL_q rfl rfl (QV_move (Ev.tmp rfl)) ?_
  simp only [List.set_cons_zero, List.set_cons_succ, Int.toNat_natCast, Nat.reduceAdd, Nat.reduceMul, Int.reduceToNat, List.getElem_toArray, List.getElem_cons_zero, List.getElem_cons_succ, cells_agg, cells_int, cells_bool, cells_slice, cells_ptr]
  -- operation 1
  refine' HL_call rfl en50 (call_fn (EvL.cons (Ev.tmp rfl) EvL.nil).evs) (there_made (List.mem_cons_of_mem _ (List.mem_cons_self ..)) rfl) ?_
  rintro _ _ ⟨rfl, rfl⟩
  simp only [List.set_cons_zero, List.set_cons_succ, Int.toNat_natCast, Nat.reduceAdd, Nat.reduceMul, Int.reduceToNat, List.getElem_toArray, List.getElem_cons_zero, List.getElem_cons_succ, cells_agg, cells_int, cells_bool, cells_slice, cells_ptr]
  refine' HL_q rfl rfl (QV_un (Ev.tmp rfl) ?hr) ?_
  case hr => intro w; first | (go_simp; done) | (go_simp; rfl)
  simp only [List.set_cons_zero, List.set_cons_succ, Int.toNat_natCast, Nat.reduceAdd, Nat.reduceMul, Int.reduceToNat, List.getElem_toArray, List.getElem_cons_zero, List.getElem_cons_succ, cells_agg, cells_int, cells_bool, cells_slice, cells_ptr]
  refine' HL_q rfl rfl (QV_move (Ev.tmp rfl)) ?_
  simp only [List.set_cons_zero, List.set_cons_succ, Int.toNat_natCast, Nat.reduceAdd, Nat.reduceMul, Int.reduceToNat, List.getElem_toArray, List.getElem_cons_zero, List.getElem_cons_succ, cells_agg, cells_int, cells_bool, cells_slice, cells_ptr]
  first
    | (refine HL_skip rfl ?_; simp only [List.set_cons_zero, List.set_cons_succ, Int.toNat_natCast, Nat.reduceAdd, Nat.reduceMul, Int.reduceToNat, List.getElem_toArray, List.getElem_cons_zero, List.getElem_cons_succ, cells_agg, cells_int, cells_bool, cells_slice, cells_ptr])
    |
      refine' HL_q rfl rfl (QV_move (Ev.tmp rfl)) ?_
      simp only [List.set_cons_zero, List.set_cons_succ, Int.toNat_natCast, Nat.reduceAdd, Nat.reduceMul, Int.reduceToNat, List.getElem_toArray, List.getElem_cons_zero, List.getElem_cons_succ, cells_agg, cells_int, cells_bool, cells_slice, cells_ptr]
  first
    | (refine HL_skip rfl ?_; simp only [List.set_cons_zero, List.set_cons_succ, Int.toNat_natCast, Nat.reduceAdd, Nat.reduceMul, Int.reduceToNat, List.getElem_toArray, List.getElem_cons_zero, List.getElem_cons_succ, cells_agg, cells_int, cells_bool, cells_slice, cells_ptr])
    |
      refine' HL_q rfl rfl (QV_nil (Ev.tmp rfl)) ?_
      simp only [List.set_cons_zero, List.set_cons_succ, Int.toNat_natCast, Nat.reduceAdd, Nat.reduceMul, Int.reduceToNat, List.getElem_toArray, List.getElem_cons_zero, List.getElem_cons_succ, cells_agg, cells_int, cells_bool, cells_slice, cells_ptr]
  first
    | (refine HL_skip rfl ?_; simp only [List.set_cons_zero, List.set_cons_succ, Int.toNat_natCast, Nat.reduceAdd, Nat.reduceMul, Int.reduceToNat, List.getElem_toArray, List.getElem_cons_zero, List.getElem_cons_succ, cells_agg, cells_int, cells_bool, cells_slice, cells_ptr])
    |
      refine' HL_q rfl rfl (QV_field (Ev.tmp rfl) (fld105_9 _ _)) ?_
      simp only [List.set_cons_zero, List.set_cons_succ, Int.toNat_natCast, Nat.reduceAdd, Nat.reduceMul, Int.reduceToNat, List.getElem_toArray, List.getElem_cons_zero, List.getElem_cons_succ, cells_agg, cells_int, cells_bool, cells_slice, cells_ptr]
  first
    | (refine HL_skip rfl ?_; simp only [List.set_cons_zero, List.set_cons_succ, Int.toNat_natCast, Nat.reduceAdd, Nat.reduceMul, Int.reduceToNat, List.getElem_toArray, List.getElem_cons_zero, List.getElem_cons_succ, cells_agg, cells_int, cells_bool, cells_slice, cells_ptr])
    |
      first
        | (refine' HL_q rfl rfl (QV_load1 (Ev.tmp rfl) Try.isAgg4 ?hm ?hv) ?_; (case hm => (repeat (first | exact List.Mem.head _ | assumption | exact List.mem_of_getElem? (by assumption) | exact mem_set_self (by assumption) | apply List.Mem.tail))); (case hv => (first | rfl | assumption)))
        | (refine' HL_q rfl rfl (QV_loadR (Ev.tmp rfl) ?hp Try.isAgg4 ?hs ?hv) ?_; (case hs => (first | assumption | (refine' Sl.sub (by assumption) ?_; (repeat (first | with_reducible exact List.Sublist.refl _ | with_reducible apply List.Sublist.cons_cons | with_reducible apply List.Sublist.cons))))); (case hv => (first  | rfl | assumption)); (case hp => (first | rfl | omega)))
      simp only [List.set_cons_zero, List.set_cons_succ, Int.toNat_natCast, Nat.reduceAdd, Nat.reduceMul, Int.reduceToNat, List.getElem_toArray, List.getElem_cons_zero, List.getElem_cons_succ, cells_agg, cells_int, cells_bool, cells_slice, cells_ptr]
  refine' HL_q rfl rfl (QV_pick (Ev.tmp rfl) Ev.const (Ev.tmp rfl)) ?_
  simp only [if_true, if_false, Bool.false_eq_true, reduceIte, List.set_cons_zero, List.set_cons_succ, Int.toNat_natCast, Nat.reduceAdd, Nat.reduceMul, Int.reduceToNat, List.getElem_toArray, List.getElem_cons_zero, List.getElem_cons_succ, cells_agg, cells_int, cells_bool, cells_slice, cells_ptr]
  refine' HL_q rfl rfl (QV_move (Ev.tmp rfl)) ?_
  simp only [List.set_cons_zero, List.set_cons_succ, Int.toNat_natCast, Nat.reduceAdd, Nat.reduceMul, Int.reduceToNat, List.getElem_toArray, List.getElem_cons_zero, List.getElem_cons_succ, cells_agg, cells_int, cells_bool, cells_slice, cells_ptr]
  first
    | (refine HL_skip rfl ?_; simp only [List.set_cons_zero, List.set_cons_succ, Int.toNat_natCast, Nat.reduceAdd, Nat.reduceMul, Int.reduceToNat, List.getElem_toArray, List.getElem_cons_zero, List.getElem_cons_succ, cells_agg, cells_int, cells_bool, cells_slice, cells_ptr])
    |
      refine' HL_q rfl rfl (QV_move (Ev.tmp rfl)) ?_
      simp only [List.set_cons_zero, List.set_cons_succ, Int.toNat_natCast, Nat.reduceAdd, Nat.reduceMul, Int.reduceToNat, List.getElem_toArray, List.getElem_cons_zero, List.getElem_cons_succ, cells_agg, cells_int, cells_bool, cells_slice, cells_ptr]
  first
    | (refine HL_skip rfl ?_; simp only [List.set_cons_zero, List.set_cons_succ, Int.toNat_natCast, Nat.reduceAdd, Nat.reduceMul, Int.reduceToNat, List.getElem_toArray, List.getElem_cons_zero, List.getElem_cons_succ, cells_agg, cells_int, cells_bool, cells_slice, cells_ptr])
    |
      first
        | (refine' HL_q rfl rfl (QV_lss_y (Ev.tmp rfl) Ev.const ?hb) ?_; case hb => omega)
        | (refine' HL_q rfl rfl (QV_lss_n (Ev.tmp rfl) Ev.const ?hb) ?_; case hb => omega)
        | (refine' HL_q rfl rfl (QV_lss (Ev.tmp rfl) Ev.const) ?_)
      simp only [List.set_cons_zero, List.set_cons_succ, Int.toNat_natCast, Nat.reduceAdd, Nat.reduceMul, Int.reduceToNat, List.getElem_toArray, List.getElem_cons_zero, List.getElem_cons_succ, cells_agg, cells_int, cells_bool, cells_slice, cells_ptr]
  refine' HL_q rfl rfl (QV_pick (Ev.tmp rfl) Ev.const (Ev.tmp rfl)) ?_
  simp only [if_true, if_false, Bool.false_eq_true, reduceIte, List.set_cons_zero, List.set_cons_succ, Int.toNat_natCast, Nat.reduceAdd, Nat.reduceMul, Int.reduceToNat, List.getElem_toArray, List.getElem_cons_zero, List.getElem_cons_succ, cells_agg, cells_int, cells_bool, cells_slice, cells_ptr]
  refine HL_nil ?_
  refine hN3 _ _ ?_
  try clear hN3 N3
  refine HC_no rfl rfl ?_
  refine HC_skip ?_
  refine hN2 _ _ ?_
  try clear hN2 N2
  refine HC_seq fun N5 hN5 => ?_
  refine HC_seq fun N6 hN6 => ?_
  refine HC_region ?_
  refine' HL_q rfl rfl (QV_move (Ev.tmp rfl)) ?_
  simp only [List.set_cons_zero, List.set_cons_succ, Int.toNat_natCast, Nat.reduceAdd, Nat.reduceMul, Int.reduceToNat, List.getElem_toArray, List.getElem_cons_zero, List.getElem_cons_succ, cells_agg, cells_int, cells_bool, cells_slice, cells_ptr, hk', e3]
  first
    | (refine' HL_q rfl rfl (QV_gtr_y (Ev.tmp rfl) Ev.const ?hb) ?_; case hb => omega)
    | (refine' HL_q rfl rfl (QV_gtr_n (Ev.tmp rfl) Ev.const ?hb) ?_; case hb => omega)
    | (refine' HL_q rfl rfl (QV_gtr (Ev.tmp rfl) Ev.const) ?_)
  simp only [List.set_cons_zero, List.set_cons_succ, Int.toNat_natCast, Nat.reduceAdd, Nat.reduceMul, Int.reduceToNat, List.getElem_toArray, List.getElem_cons_zero, List.getElem_cons_succ, cells_agg, cells_int, cells_bool, cells_slice, cells_ptr, hk', e3]
  refine' HL_q rfl rfl (QV_move (Ev.tmp rfl)) ?_
  simp only [List.set_cons_zero, List.set_cons_succ, Int.toNat_natCast, Nat.reduceAdd, Nat.reduceMul, Int.reduceToNat, List.getElem_toArray, List.getElem_cons_zero, List.getElem_cons_succ, cells_agg, cells_int, cells_bool, cells_slice, cells_ptr, hk', e3]
  first
    | (refine HL_skip rfl ?_; simp only [List.set_cons_zero, List.set_cons_succ, Int.toNat_natCast, Nat.reduceAdd, Nat.reduceMul, Int.reduceToNat, List.getElem_toArray, List.getElem_cons_zero, List.getElem_cons_succ, cells_agg, cells_int, cells_bool, cells_slice, cells_ptr, hk', e3])
    |
      refine' HL_q rfl rfl (QV_move (Ev.tmp rfl)) ?_
      simp only [List.set_cons_zero, List.set_cons_succ, Int.toNat_natCast, Nat.reduceAdd, Nat.reduceMul, Int.reduceToNat, List.getElem_toArray, List.getElem_cons_zero, List.getElem_cons_succ, cells_agg, cells_int, cells_bool, cells_slice, cells_ptr, hk', e3]
  first
    | (refine HL_skip rfl ?_; simp only [List.set_cons_zero, List.set_cons_succ, Int.toNat_natCast, Nat.reduceAdd, Nat.reduceMul, Int.reduceToNat, List.getElem_toArray, List.getElem_cons_zero, List.getElem_cons_succ, cells_agg, cells_int, cells_bool, cells_slice, cells_ptr, hk', e3])
    |
      refine' HL_q rfl rfl (QV_nil (Ev.tmp rfl)) ?_
      simp only [List.set_cons_zero, List.set_cons_succ, Int.toNat_natCast, Nat.reduceAdd, Nat.reduceMul, Int.reduceToNat, List.getElem_toArray, List.getElem_cons_zero, List.getElem_cons_succ, cells_agg, cells_int, cells_bool, cells_slice, cells_ptr, hk', e3]
  first
    | (refine HL_skip rfl ?_; simp only [List.set_cons_zero, List.set_cons_succ, Int.toNat_natCast, Nat.reduceAdd, Nat.reduceMul, Int.reduceToNat, List.getElem_toArray, List.getElem_cons_zero, List.getElem_cons_succ, cells_agg, cells_int, cells_bool, cells_slice, cells_ptr, hk', e3])
    |
      refine' HL_q rfl rfl (QV_field (Ev.tmp rfl) (fld105_5 _ _)) ?_
      simp only [List.set_cons_zero, List.set_cons_succ, Int.toNat_natCast, Nat.reduceAdd, Nat.reduceMul, Int.reduceToNat, List.getElem_toArray, List.getElem_cons_zero, List.getElem_cons_succ, cells_agg, cells_int, cells_bool, cells_slice, cells_ptr, hk', e3]
  first
    | (refine HL_skip rfl ?_; simp only [List.set_cons_zero, List.set_cons_succ, Int.toNat_natCast, Nat.reduceAdd, Nat.reduceMul, Int.reduceToNat, List.getElem_toArray, List.getElem_cons_zero, List.getElem_cons_succ, cells_agg, cells_int, cells_bool, cells_slice, cells_ptr, hk', e3])
    |
      first
        | (refine' HL_q rfl rfl (QV_load1 (Ev.tmp rfl) Try.isAgg103 ?hm ?hv) ?_; (case hm => (repeat (first | exact List.Mem.head _ | assumption | exact List.mem_of_getElem? (by assumption) | exact mem_set_self (by assumption) | apply List.Mem.tail))); (case hv => (first | rfl | assumption)))
        | (refine' HL_q rfl rfl (QV_loadR (Ev.tmp rfl) ?hp Try.isAgg103 ?hs ?hv) ?_; (case hs => (first | assumption | (refine' Sl.sub (by assumption) ?_; (repeat (first | with_reducible exact List.Sublist.refl _ | with_reducible apply List.Sublist.cons_cons | with_reducible apply List.Sublist.cons))))); (case hv => (first  | rfl | assumption)); (case hp => (first | rfl | omega)))
      simp only [List.set_cons_zero, List.set_cons_succ, Int.toNat_natCast, Nat.reduceAdd, Nat.reduceMul, Int.reduceToNat, List.getElem_toArray, List.getElem_cons_zero, List.getElem_cons_succ, cells_agg, cells_int, cells_bool, cells_slice, cells_ptr, hk', e3]
  first
    | (refine HL_skip rfl ?_; simp only [List.set_cons_zero, List.set_cons_succ, Int.toNat_natCast, Nat.reduceAdd, Nat.reduceMul, Int.reduceToNat, List.getElem_toArray, List.getElem_cons_zero, List.getElem_cons_succ, cells_agg, cells_int, cells_bool, cells_slice, cells_ptr, hk', e3])
    |
      refine' HL_q rfl rfl (QV_len (Ev.tmp rfl) Try.underlying103) ?_
      simp only [List.set_cons_zero, List.set_cons_succ, Int.toNat_natCast, Nat.reduceAdd, Nat.reduceMul, Int.reduceToNat, List.getElem_toArray, List.getElem_cons_zero, List.getElem_cons_succ, cells_agg, cells_int, cells_bool, cells_slice, cells_ptr, hk', e3]
  first
    | (refine HL_skip rfl ?_; simp only [List.set_cons_zero, List.set_cons_succ, Int.toNat_natCast, Nat.reduceAdd, Nat.reduceMul, Int.reduceToNat, List.getElem_toArray, List.getElem_cons_zero, List.getElem_cons_succ, cells_agg, cells_int, cells_bool, cells_slice, cells_ptr, hk', e3])
    |
      first
        | (refine' HL_q rfl rfl (QV_gtr_y (Ev.tmp rfl) Ev.const ?hb) ?_; case hb => omega)
        | (refine' HL_q rfl rfl (QV_gtr_n (Ev.tmp rfl) Ev.const ?hb) ?_; case hb => omega)
        | (refine' HL_q rfl rfl (QV_gtr (Ev.tmp rfl) Ev.const) ?_)
      simp only [List.set_cons_zero, List.set_cons_succ, Int.toNat_natCast, Nat.reduceAdd, Nat.reduceMul, Int.reduceToNat, List.getElem_toArray, List.getElem_cons_zero, List.getElem_cons_succ, cells_agg, cells_int, cells_bool, cells_slice, cells_ptr, hk', e3]
  refine' HL_q rfl rfl (QV_pick (Ev.tmp rfl) (Ev.tmp rfl) Ev.const) ?_
  simp only [if_true, if_false, Bool.false_eq_true, reduceIte, List.set_cons_zero, List.set_cons_succ, Int.toNat_natCast, Nat.reduceAdd, Nat.reduceMul, Int.reduceToNat, List.getElem_toArray, List.getElem_cons_zero, List.getElem_cons_succ, cells_agg, cells_int, cells_bool, cells_slice, cells_ptr, hk', e3]
  refine HL_nil ?_
  refine hN6 _ _ ?_
  try clear hN6 N6
  refine HC_true rfl ?_
  have hx : ((runC (((f : Int), (t : Int)) :: rest)).drop 0).take 2 = [.int .i64 f, .int .i64 t] := rfl
  refine HC_seq fun N7 hN7 => ?_
  refine HC_region ?_
  refine' HL_q rfl rfl (QV_move (Ev.tmp rfl)) ?_
  simp only [List.set_cons_zero, List.set_cons_succ, Int.toNat_natCast, Nat.reduceAdd, Nat.reduceMul, Int.reduceToNat, List.getElem_toArray, List.getElem_cons_zero, List.getElem_cons_succ, cells_agg, cells_int, cells_bool, cells_slice, cells_ptr, hk', e3]
  refine' HL_q rfl rfl (QV_nil (Ev.tmp rfl)) ?_
  simp only [List.set_cons_zero, List.set_cons_succ, Int.toNat_natCast, Nat.reduceAdd, Nat.reduceMul, Int.reduceToNat, List.getElem_toArray, List.getElem_cons_zero, List.getElem_cons_succ, cells_agg, cells_int, cells_bool, cells_slice, cells_ptr, hk', e3]
  refine' HL_q rfl rfl (QV_field (Ev.tmp rfl) (fld105_5 _ _)) ?_
  simp only [List.set_cons_zero, List.set_cons_succ, Int.toNat_natCast, Nat.reduceAdd, Nat.reduceMul, Int.reduceToNat, List.getElem_toArray, List.getElem_cons_zero, List.getElem_cons_succ, cells_agg, cells_int, cells_bool, cells_slice, cells_ptr, hk', e3]
  first
    | (refine' HL_q rfl rfl (QV_load1 (Ev.tmp rfl) Try.isAgg103 ?hm ?hv) ?_; (case hm => (repeat (first | exact List.Mem.head _ | assumption | exact List.mem_of_getElem? (by assumption) | exact mem_set_self (by assumption) | apply List.Mem.tail))); (case hv => (first | rfl | assumption)))
    | (refine' HL_q rfl rfl (QV_loadR (Ev.tmp rfl) ?hp Try.isAgg103 ?hs ?hv) ?_; (case hs => (first | assumption | (refine' Sl.sub (by assumption) ?_; (repeat (first | with_reducible exact List.Sublist.refl _ | with_reducible apply List.Sublist.cons_cons | with_reducible apply List.Sublist.cons))))); (case hv => (first  | rfl | assumption)); (case hp => (first | rfl | omega)))
  simp only [List.set_cons_zero, List.set_cons_succ, Int.toNat_natCast, Nat.reduceAdd, Nat.reduceMul, Int.reduceToNat, List.getElem_toArray, List.getElem_cons_zero, List.getElem_cons_succ, cells_agg, cells_int, cells_bool, cells_slice, cells_ptr, hk', e3]
  refine' HL_q rfl rfl (QV_index (Ev.tmp rfl) Ev.const (indexAt_slice Try.underlying103 Try.sizeOf107 ?h0 ?h1)) ?_
  case h0 => omega
  case h1 => omega
  simp only [List.set_cons_zero, List.set_cons_succ, Int.toNat_natCast, Nat.reduceAdd, Nat.reduceMul, Int.reduceToNat, List.getElem_toArray, List.getElem_cons_zero, List.getElem_cons_succ, cells_agg, cells_int, cells_bool, cells_slice, cells_ptr, hk', e3]
  -- operation 5
  refine' HL_q rfl rfl (QV_loadRA (Ev.tmp rfl) ?hp Try.isAgg107 Try.sizeOf107 (hsl2 _ (by simp)) hx rfl) ?_
  case hp => rfl
  simp only [List.set_cons_zero, List.set_cons_succ, Int.toNat_natCast, Nat.reduceAdd, Nat.reduceMul, Int.reduceToNat, List.getElem_toArray, List.getElem_cons_zero, List.getElem_cons_succ, cells_agg, cells_int, cells_bool, cells_slice, cells_ptr, hk', e3]
  refine' HL_s rfl rfl (SO_alloc Try.zeroValue107 rfl) ?_
  rintro _ _ ⟨g8, rfl, rfl⟩
  simp only [List.set_cons_zero, List.set_cons_succ, Int.toNat_natCast, Nat.reduceAdd, Nat.reduceMul, Int.reduceToNat, List.getElem_toArray, List.getElem_cons_zero, List.getElem_cons_succ, cells_agg, cells_int, cells_bool, cells_slice, cells_ptr, hk', e3]
  refine' HL_s rfl rfl (SO_store (Ev.tmp rfl) (Ev.tmp rfl) Try.sizeOf107 ?hvs ?hn ?h1 ?hm ?hfit) ?_
  case hvs => rfl
  case hn => rfl
  case h1 => rfl
  case hm => (repeat (first | with_reducible exact Upd.head | exact Upd.at_ (by assumption) | exact Upd.set (by assumption) | apply Upd.tail))
  case hfit => simp
  rintro _ _ ⟨rfl, rfl⟩
  simp only [spl, List.set_cons_zero, List.set_cons_succ, List.toList_toArray, List.take_succ_cons, List.take_zero, List.drop_succ_cons, List.drop_zero, List.nil_append, List.cons_append, List.append_nil, List.length_cons, List.length_nil, Nat.zero_add, Nat.reduceAdd, List.take_nil, List.drop_nil]
  refine HL_nil ?_
  refine hN7 _ _ ?_
  try clear hN7 N7
  have hsm' : Small (((f : Int), (t : Int)) :: rest) := by
    intro r hr
    rcases List.mem_cons.1 hr with rfl | hr
    · simp; omega
    · exact hsm r hr
  refine HC_seq fun N8 hN8 => ?_
  refine HC_draw 11 [] _ mixed rfl ?_
  refine' DA_take (i := 0) rfl (by kernel_rfl) (fun _ _ _ _ h => (kp _ _ _ h).elim) rfl (QV_field (Ev.tmp rfl) (fld107_1 _ _)) ?_
  simp only [List.set_cons_zero, List.set_cons_succ, Int.toNat_natCast, Nat.reduceAdd, Nat.reduceMul, Int.reduceToNat, List.getElem_toArray, List.getElem_cons_zero, List.getElem_cons_succ, cells_agg, cells_int, cells_bool, cells_slice, cells_ptr, hk', e3]
  first
    | (refine' DA_take (i := 1) rfl (by kernel_rfl) (fun _ _ _ _ h => (kp _ _ _ h).elim) rfl (QV_load1 (Ev.tmp rfl) Try.isAgg3 ?hm ?hv) ?_; (case hm => (repeat (first | exact List.Mem.head _ | assumption | exact List.mem_of_getElem? (by assumption) | exact mem_set_self (by assumption) | apply List.Mem.tail))); (case hv => (first | rfl | assumption)))
    | (refine' DA_take (i := 1) rfl (by kernel_rfl) (fun _ _ _ _ h => (kp _ _ _ h).elim) rfl (QV_loadR (Ev.tmp rfl) ?hp Try.isAgg3 ?hs ?hv) ?_; (case hs => (first | assumption | (refine' Sl.sub (by assumption) ?_; (repeat (first | with_reducible exact List.Sublist.refl _ | with_reducible apply List.Sublist.cons_cons | with_reducible apply List.Sublist.cons))))); (case hv => (first  | rfl | assumption)); (case hp => (first | rfl | omega)))
  simp only [List.set_cons_zero, List.set_cons_succ, Int.toNat_natCast, Nat.reduceAdd, Nat.reduceMul, Int.reduceToNat, List.getElem_toArray, List.getElem_cons_zero, List.getElem_cons_succ, cells_agg, cells_int, cells_bool, cells_slice, cells_ptr, hk', e3]
  refine' DA_take (i := 2) rfl (by kernel_rfl) (fun _ _ _ _ h => (kp _ _ _ h).elim) rfl (QV_field (Ev.tmp rfl) (fld107_0 _ _)) ?_
  simp only [List.set_cons_zero, List.set_cons_succ, Int.toNat_natCast, Nat.reduceAdd, Nat.reduceMul, Int.reduceToNat, List.getElem_toArray, List.getElem_cons_zero, List.getElem_cons_succ, cells_agg, cells_int, cells_bool, cells_slice, cells_ptr, hk', e3]
  first
    | (refine' DA_take (i := 3) rfl (by kernel_rfl) (fun _ _ _ _ h => (kp _ _ _ h).elim) rfl (QV_load1 (Ev.tmp rfl) Try.isAgg3 ?hm ?hv) ?_; (case hm => (repeat (first | exact List.Mem.head _ | assumption | exact List.mem_of_getElem? (by assumption) | exact mem_set_self (by assumption) | apply List.Mem.tail))); (case hv => (first | rfl | assumption)))
    | (refine' DA_take (i := 3) rfl (by kernel_rfl) (fun _ _ _ _ h => (kp _ _ _ h).elim) rfl (QV_loadR (Ev.tmp rfl) ?hp Try.isAgg3 ?hs ?hv) ?_; (case hs => (first | assumption | (refine' Sl.sub (by assumption) ?_; (repeat (first | with_reducible exact List.Sublist.refl _ | with_reducible apply List.Sublist.cons_cons | with_reducible apply List.Sublist.cons))))); (case hv => (first  | rfl | assumption)); (case hp => (first | rfl | omega)))
  simp only [List.set_cons_zero, List.set_cons_succ, Int.toNat_natCast, Nat.reduceAdd, Nat.reduceMul, Int.reduceToNat, List.getElem_toArray, List.getElem_cons_zero, List.getElem_cons_succ, cells_agg, cells_int, cells_bool, cells_slice, cells_ptr, hk', e3]
  refine' DA_take (i := 4) rfl (by kernel_rfl) (fun _ _ _ _ h => (kp _ _ _ h).elim) rfl (QV_move (Ev.tmp rfl)) ?_
  simp only [List.set_cons_zero, List.set_cons_succ, Int.toNat_natCast, Nat.reduceAdd, Nat.reduceMul, Int.reduceToNat, List.getElem_toArray, List.getElem_cons_zero, List.getElem_cons_succ, cells_agg, cells_int, cells_bool, cells_slice, cells_ptr, hk', e3]
  first
    | (refine' DA_take (i := 5) rfl (by kernel_rfl) (fun _ _ _ _ h => (kp _ _ _ h).elim) rfl (QV_loadA (Ev.tmp rfl) Try.isAgg107 Try.sizeOf107 ?hm ?hv ?hn) ?_; (case hm => (repeat (first | exact List.Mem.head _ | assumption | exact List.mem_of_getElem? (by assumption) | exact mem_set_self (by assumption) | apply List.Mem.tail))); (case hv => (simp only [List.toList_toArray, List.take_succ_cons, List.take_zero, List.drop_succ_cons, List.drop_zero, List.take_nil]; rfl)); (case hn => rfl))
    | (refine' DA_take (i := 5) rfl (by kernel_rfl) (fun _ _ _ _ h => (kp _ _ _ h).elim) rfl (QV_loadRA (Ev.tmp rfl) ?hp Try.isAgg107 Try.sizeOf107 ?hs ?hv ?hn) ?_; (case hs => (first | assumption | (refine' Sl.sub (by assumption) ?_; (repeat (first | with_reducible exact List.Sublist.refl _ | with_reducible apply List.Sublist.cons_cons | with_reducible apply List.Sublist.cons))))); (case hv => (first | (exact hx) | rfl)); (case hp => (first | rfl | omega)); (case hn => rfl))
  simp only [List.set_cons_zero, List.set_cons_succ, Int.toNat_natCast, Nat.reduceAdd, Nat.reduceMul, Int.reduceToNat, List.getElem_toArray, List.getElem_cons_zero, List.getElem_cons_succ, cells_agg, cells_int, cells_bool, cells_slice, cells_ptr, hk', e3]
  refine DA_one (i := 6) (by kernel_rfl) ?_
  refine' DB_call (i := 6) rfl rfl en51 (call_fn (EvL.cons (Ev.tmp rfl) EvL.nil).evs) ((runlen (by omega) (by omega) (by omega) (by omega))) ?_
  rintro _ _ ⟨rfl, rfl⟩
  refine ⟨_, rfl, ?_⟩
  simp only [List.set_cons_zero, List.set_cons_succ, Int.toNat_natCast, Nat.reduceAdd, Nat.reduceMul, Int.reduceToNat, List.getElem_toArray, List.getElem_cons_zero, List.getElem_cons_succ, cells_agg, cells_int, cells_bool, cells_slice, cells_ptr, hk', e3]
  refine' DA_take (i := 7) rfl (by kernel_rfl) (fun _ _ _ _ h => (kp _ _ _ h).elim) rfl (QV_min2 (Ev.tmp rfl) (Ev.tmp rfl)) ?_
  simp only [List.set_cons_zero, List.set_cons_succ, Int.toNat_natCast, Nat.reduceAdd, Nat.reduceMul, Int.reduceToNat, List.getElem_toArray, List.getElem_cons_zero, List.getElem_cons_succ, cells_agg, cells_int, cells_bool, cells_slice, cells_ptr, hk', e3]
  refine' DA_take (i := 8) rfl (by kernel_rfl) (fun _ _ _ _ h => (kp _ _ _ h).elim) rfl (QV_add (Ev.tmp rfl) (Ev.tmp rfl) ?hr) ?_
  case hr => first | exact IntWalk.i64_in _ (by omega) | exact IntWalk.u64_in _ (by omega) | exact IntWalk.u8_in _ (by omega) | exact IntWalk.u32_in _ (by omega) | exact IntWalk.i64_quo _ _ (by omega) | exact IntWalk.u64_quo _ _ (by omega) | rfl
  simp only [List.set_cons_zero, List.set_cons_succ, Int.toNat_natCast, Nat.reduceAdd, Nat.reduceMul, Int.reduceToNat, List.getElem_toArray, List.getElem_cons_zero, List.getElem_cons_succ, cells_agg, cells_int, cells_bool, cells_slice, cells_ptr, hk', e3]
  refine' DA_take (i := 9) rfl (by kernel_rfl) (fun _ _ _ _ h => (kp _ _ _ h).elim) rfl (QV_min2 (Ev.tmp rfl) (Ev.tmp rfl)) ?_
  simp only [List.set_cons_zero, List.set_cons_succ, Int.toNat_natCast, Nat.reduceAdd, Nat.reduceMul, Int.reduceToNat, List.getElem_toArray, List.getElem_cons_zero, List.getElem_cons_succ, cells_agg, cells_int, cells_bool, cells_slice, cells_ptr, hk', e3]
  refine' DA_take (i := 10) rfl (by kernel_rfl) (fun _ _ _ _ h => (kp _ _ _ h).elim) rfl (QV_field (Ev.tmp rfl) (fld107_1 _ _)) ?_
  simp only [List.set_cons_zero, List.set_cons_succ, Int.toNat_natCast, Nat.reduceAdd, Nat.reduceMul, Int.reduceToNat, List.getElem_toArray, List.getElem_cons_zero, List.getElem_cons_succ, cells_agg, cells_int, cells_bool, cells_slice, cells_ptr, hk', e3]
  refine DA_cut (q1 := 12) (by kernel_rfl) rfl ?_
  try simp only [List.nil_append, List.cons_append]
  refine DA_one (i := 11) (by kernel_rfl) ?_
  refine' DB_z (i := 11) rfl rfl rfl (SO_store (Ev.tmp rfl) (Ev.tmp rfl) Try.sizeOf3 ?hvs ?hn ?h1 ?hm ?hfit) ?_
  case hvs => rfl
  case hn => rfl
  case h1 => rfl
  case hm => (repeat (first | with_reducible exact Upd.head | exact Upd.at_ (by assumption) | exact Upd.set (by assumption) | apply Upd.tail))
  case hfit => simp
  rintro _ _ ⟨rfl, rfl⟩
  simp only [spl, List.set_cons_zero, List.set_cons_succ, List.toList_toArray, List.take_succ_cons, List.take_zero, List.drop_succ_cons, List.drop_zero, List.nil_append, List.cons_append, List.append_nil, List.length_cons, List.length_nil, Nat.zero_add, Nat.reduceAdd, List.take_nil, List.drop_nil]
  refine DA_end (by kernel_rfl) ?_
  try simp only [List.nil_append, List.cons_append]
  refine hN8 _ _ ?_
  try clear hN8 N8
  refine HC_seq fun N9 hN9 => ?_
  refine HC_draw 9 [] _ mixed rfl ?_
  refine' DA_take (i := 0) rfl (by kernel_rfl) (fun _ _ _ _ h => (kp _ _ _ h).elim) rfl (QV_move (Ev.tmp rfl)) ?_
  simp only [List.set_cons_zero, List.set_cons_succ, Int.toNat_natCast, Nat.reduceAdd, Nat.reduceMul, Int.reduceToNat, List.getElem_toArray, List.getElem_cons_zero, List.getElem_cons_succ, cells_agg, cells_int, cells_bool, cells_slice, cells_ptr, hk', e3]
  refine' DA_take (i := 1) rfl (by kernel_rfl) (fun _ _ _ _ h => (kp _ _ _ h).elim) rfl (QV_move (Ev.tmp rfl)) ?_
  simp only [List.set_cons_zero, List.set_cons_succ, Int.toNat_natCast, Nat.reduceAdd, Nat.reduceMul, Int.reduceToNat, List.getElem_toArray, List.getElem_cons_zero, List.getElem_cons_succ, cells_agg, cells_int, cells_bool, cells_slice, cells_ptr, hk', e3]
  refine' DA_take (i := 2) rfl (by kernel_rfl) (fun _ _ _ _ h => (kp _ _ _ h).elim) rfl (QV_nil (Ev.tmp rfl)) ?_
  simp only [List.set_cons_zero, List.set_cons_succ, Int.toNat_natCast, Nat.reduceAdd, Nat.reduceMul, Int.reduceToNat, List.getElem_toArray, List.getElem_cons_zero, List.getElem_cons_succ, cells_agg, cells_int, cells_bool, cells_slice, cells_ptr, hk', e3]
  refine' DA_take (i := 3) rfl (by kernel_rfl) (fun _ _ _ _ h => (kp _ _ _ h).elim) rfl (QV_field (Ev.tmp rfl) (fld105_5 _ _)) ?_
  simp only [List.set_cons_zero, List.set_cons_succ, Int.toNat_natCast, Nat.reduceAdd, Nat.reduceMul, Int.reduceToNat, List.getElem_toArray, List.getElem_cons_zero, List.getElem_cons_succ, cells_agg, cells_int, cells_bool, cells_slice, cells_ptr, hk', e3]
  first
    | (refine' DA_take (i := 4) rfl (by kernel_rfl) (fun _ _ _ _ h => (kp _ _ _ h).elim) rfl (QV_load1 (Ev.tmp rfl) Try.isAgg103 ?hm ?hv) ?_; (case hm => (repeat (first | exact List.Mem.head _ | assumption | exact List.mem_of_getElem? (by assumption) | exact mem_set_self (by assumption) | apply List.Mem.tail))); (case hv => (first | rfl | assumption)))
    | (refine' DA_take (i := 4) rfl (by kernel_rfl) (fun _ _ _ _ h => (kp _ _ _ h).elim) rfl (QV_loadR (Ev.tmp rfl) ?hp Try.isAgg103 ?hs ?hv) ?_; (case hs => (first | assumption | (refine' Sl.sub (by assumption) ?_; (repeat (first | with_reducible exact List.Sublist.refl _ | with_reducible apply List.Sublist.cons_cons | with_reducible apply List.Sublist.cons))))); (case hv => (first  | rfl | assumption)); (case hp => (first | rfl | omega)))
  simp only [List.set_cons_zero, List.set_cons_succ, Int.toNat_natCast, Nat.reduceAdd, Nat.reduceMul, Int.reduceToNat, List.getElem_toArray, List.getElem_cons_zero, List.getElem_cons_succ, cells_agg, cells_int, cells_bool, cells_slice, cells_ptr, hk', e3]
  first
    | (refine' DA_take (i := 5) rfl (by kernel_rfl) (fun _ _ _ _ h => (kp _ _ _ h).elim) rfl (QV_loadA (Ev.tmp rfl) Try.isAgg107 Try.sizeOf107 ?hm ?hv ?hn) ?_; (case hm => (repeat (first | exact List.Mem.head _ | assumption | exact List.mem_of_getElem? (by assumption) | exact mem_set_self (by assumption) | apply List.Mem.tail))); (case hv => (simp only [List.toList_toArray, List.take_succ_cons, List.take_zero, List.drop_succ_cons, List.drop_zero, List.take_nil]; rfl)); (case hn => rfl))
    | (refine' DA_take (i := 5) rfl (by kernel_rfl) (fun _ _ _ _ h => (kp _ _ _ h).elim) rfl (QV_loadRA (Ev.tmp rfl) ?hp Try.isAgg107 Try.sizeOf107 ?hs ?hv ?hn) ?_; (case hs => (first | assumption | (refine' Sl.sub (by assumption) ?_; (repeat (first | with_reducible exact List.Sublist.refl _ | with_reducible apply List.Sublist.cons_cons | with_reducible apply List.Sublist.cons))))); (case hv => (first | (exact hx) | rfl)); (case hp => (first | rfl | omega)); (case hn => rfl))
  simp only [List.set_cons_zero, List.set_cons_succ, Int.toNat_natCast, Nat.reduceAdd, Nat.reduceMul, Int.reduceToNat, List.getElem_toArray, List.getElem_cons_zero, List.getElem_cons_succ, cells_agg, cells_int, cells_bool, cells_slice, cells_ptr, hk', e3]
  refine DA_one (i := 6) (by kernel_rfl) ?_
  refine' DB_call (i := 6) rfl rfl en52 (call_fn (EvL.cons (Ev.tmp rfl) (EvL.cons (Ev.tmp rfl) EvL.nil)).evs) ((without_calls (l := ((f : Int), (t : Int)) :: rest) (hsl2 _ (by simp)) hsm' (by simp; omega) (by omega) (by omega) (by omega) (by omega))) ?_
  rintro v58 _ rfl
  refine ⟨_ :: _, rfl, ?_⟩
  refine DA_fact (fun w hw => own_shape hw (List.mem_cons_self ..)) ?_
  rintro ⟨A58, c58, rfl, _, _, _⟩
  simp only [List.set_cons_zero, List.set_cons_succ, Int.toNat_natCast, Nat.reduceAdd, Nat.reduceMul, Int.reduceToNat, List.getElem_toArray, List.getElem_cons_zero, List.getElem_cons_succ, cells_agg, cells_int, cells_bool, cells_slice, cells_ptr, hk', e3]
  refine' DA_take (i := 7) rfl (by kernel_rfl) (fun _ _ _ _ h => (kp _ _ _ h).elim) rfl (QV_nil (Ev.tmp rfl)) ?_
  simp only [List.set_cons_zero, List.set_cons_succ, Int.toNat_natCast, Nat.reduceAdd, Nat.reduceMul, Int.reduceToNat, List.getElem_toArray, List.getElem_cons_zero, List.getElem_cons_succ, cells_agg, cells_int, cells_bool, cells_slice, cells_ptr, hk', e3]
  refine' DA_take (i := 8) rfl (by kernel_rfl) (fun _ _ _ _ h => (kp _ _ _ h).elim) rfl (QV_field (Ev.tmp rfl) (fld105_5 _ _)) ?_
  simp only [List.set_cons_zero, List.set_cons_succ, Int.toNat_natCast, Nat.reduceAdd, Nat.reduceMul, Int.reduceToNat, List.getElem_toArray, List.getElem_cons_zero, List.getElem_cons_succ, cells_agg, cells_int, cells_bool, cells_slice, cells_ptr, hk', e3]
  refine DA_cut (q1 := 10) (by kernel_rfl) rfl ?_
  try simp only [List.nil_append, List.cons_append]
  refine DA_one (i := 9) (by kernel_rfl) ?_
  refine' DB_z (i := 9) rfl rfl rfl (SO_store (Ev.tmp rfl) (Ev.tmp rfl) Try.sizeOf103 ?hvs ?hn ?h1 ?hm ?hfit) ?_
  case hvs => rfl
  case hn => rfl
  case h1 => rfl
  case hm => (repeat (first | with_reducible exact Upd.head | exact Upd.at_ (by assumption) | exact Upd.set (by assumption) | apply Upd.tail))
  case hfit => simp
  rintro _ _ ⟨rfl, rfl⟩
  simp only [spl, List.set_cons_zero, List.set_cons_succ, List.toList_toArray, List.take_succ_cons, List.take_zero, List.drop_succ_cons, List.drop_zero, List.nil_append, List.cons_append, List.append_nil, List.length_cons, List.length_nil, Nat.zero_add, Nat.reduceAdd, List.take_nil, List.drop_nil]
  refine DA_end (by kernel_rfl) ?_
  try simp only [List.nil_append, List.cons_append]
  refine hN9 _ _ ?_
  try clear hN9 N9
  refine HC_seq fun N10 hN10 => ?_
  refine HC_region ?_
  refine' HL_q rfl rfl (QV_move (Ev.tmp rfl)) ?_
  simp only [List.set_cons_zero, List.set_cons_succ, Int.toNat_natCast, Nat.reduceAdd, Nat.reduceMul, Int.reduceToNat, List.getElem_toArray, List.getElem_cons_zero, List.getElem_cons_succ, cells_agg, cells_int, cells_bool, cells_slice, cells_ptr, hk', e3]
  first
    | (refine' HL_q rfl rfl (QV_loadA (Ev.tmp rfl) Try.isAgg107 Try.sizeOf107 ?hm ?hv ?hn) ?_; (case hm => (repeat (first | exact List.Mem.head _ | assumption | exact List.mem_of_getElem? (by assumption) | exact mem_set_self (by assumption) | apply List.Mem.tail))); (case hv => (simp only [List.toList_toArray, List.take_succ_cons, List.take_zero, List.drop_succ_cons, List.drop_zero, List.take_nil]; rfl)); (case hn => rfl))
    | (refine' HL_q rfl rfl (QV_loadRA (Ev.tmp rfl) ?hp Try.isAgg107 Try.sizeOf107 ?hs ?hv ?hn) ?_; (case hs => (first | assumption | (refine' Sl.sub (by assumption) ?_; (repeat (first | with_reducible exact List.Sublist.refl _ | with_reducible apply List.Sublist.cons_cons | with_reducible apply List.Sublist.cons))))); (case hv => (first | (exact hx) | rfl)); (case hp => (first | rfl | omega)); (case hn => rfl))
  simp only [List.set_cons_zero, List.set_cons_succ, Int.toNat_natCast, Nat.reduceAdd, Nat.reduceMul, Int.reduceToNat, List.getElem_toArray, List.getElem_cons_zero, List.getElem_cons_succ, cells_agg, cells_int, cells_bool, cells_slice, cells_ptr, hk', e3]
  -- operation 2
  refine' HL_call rfl en53 (call_fn (EvL.cons (Ev.tmp rfl) (EvL.cons (Ev.tmp rfl) EvL.nil)).evs) ((CH_pull (by repeat (first | with_reducible exact Rm.head | with_reducible apply Rm.tail)) (told_calls (hsl _ (by simp)) (by omega) (by omega) (by omega) (by omega)))) ?_
  rintro _ _ ⟨gd, rfl, rfl⟩
  simp only [List.set_cons_zero, List.set_cons_succ, Int.toNat_natCast, Nat.reduceAdd, Nat.reduceMul, Int.reduceToNat, List.getElem_toArray, List.getElem_cons_zero, List.getElem_cons_succ, cells_agg, cells_int, cells_bool, cells_slice, cells_ptr, hk', e3]
  refine' HL_q rfl rfl (QV_extract (Ev.tmp rfl) rfl) ?_
  simp only [List.set_cons_zero, List.set_cons_succ, Int.toNat_natCast, Nat.reduceAdd, Nat.reduceMul, Int.reduceToNat, List.getElem_toArray, List.getElem_cons_zero, List.getElem_cons_succ, cells_agg, cells_int, cells_bool, cells_slice, cells_ptr, hk', e3]
  refine' HL_q rfl rfl (QV_extract (Ev.tmp rfl) rfl) ?_
  simp only [List.set_cons_zero, List.set_cons_succ, Int.toNat_natCast, Nat.reduceAdd, Nat.reduceMul, Int.reduceToNat, List.getElem_toArray, List.getElem_cons_zero, List.getElem_cons_succ, cells_agg, cells_int, cells_bool, cells_slice, cells_ptr, hk', e3]
  refine' HL_s rfl rfl (SO_store (Ev.tmp rfl) (Ev.tmp rfl) Try.sizeOf36 ?hvs ?hn ?h1 ?hm ?hfit) ?_
  case hvs => rfl
  case hn => rfl
  case h1 => rfl
  case hm => (repeat (first | with_reducible exact Upd.head | exact Upd.at_ (by assumption) | exact Upd.set (by assumption) | apply Upd.tail))
  case hfit => simp
  rintro _ _ ⟨rfl, rfl⟩
  simp only [spl, List.set_cons_zero, List.set_cons_succ, List.toList_toArray, List.take_succ_cons, List.take_zero, List.drop_succ_cons, List.drop_zero, List.nil_append, List.cons_append, List.append_nil, List.length_cons, List.length_nil, Nat.zero_add, Nat.reduceAdd, List.take_nil, List.drop_nil]
  refine' HL_q rfl rfl (QV_assign (Ev.tmp rfl)) ?_
  simp only [List.set_cons_zero, List.set_cons_succ, Int.toNat_natCast, Nat.reduceAdd, Nat.reduceMul, Int.reduceToNat, List.getElem_toArray, List.getElem_cons_zero, List.getElem_cons_succ, cells_agg, cells_int, cells_bool, cells_slice, cells_ptr, hk', e3]
  refine HL_nil ?_
  refine hN10 _ _ ?_
  try clear hN10 N10
  refine HC_ret ?_
  try simp only [thenK, blockK]
  refine kr _ _ ?_
  refine' Lv_cell_tmp rfl rfl Try.isAgg36 Try.sizeOf36 ?hm ?hn rfl ?post ?le
  case hm => (repeat (first | exact List.Mem.head _ | assumption | exact List.mem_of_getElem? (by assumption) | exact mem_set_self (by assumption) | apply List.Mem.tail))
  case hn => rfl
  case post => exact ⟨gd, .slice A58 (withoutR (((f : Int), (t : Int)) :: rest) f (f + k : Nat)).length c58, rfl, rfl⟩
  case le => (first | with_reducible exact Le.refl | (refine Le.of ?_; (repeat (first | with_reducible exact Sp.refl | with_reducible exact Sp.nil | (apply Sp.pick; focus ((repeat (first | with_reducible exact Rm.head | with_reducible apply Rm.tail)); done)) | with_reducible refine Sp.drop ?_))))
end Go.Proofs.Ytcilfoicoambhaa
