import Derived.Test.YtcilfoicoambhaaSt3
set_option linter.unusedVariables false
set_option linter.unusedSimpArgs false
set_option maxRecDepth 20000
set_option maxHeartbeats 1000000
namespace Go.Proofs.Ytcilfoicoambhaa
open Go Go.Hw Go.RowKit

variable {w0 : World} {R : List Asn}

/-- A stream frame's cells. -/
abbrev frmC (id off : Int) (fin : Bool) (dv : Value) : Array Value :=
  #[.int .u8 7, .int .u64 id, .int .u64 off, .int .u64 0, .int .u64 0, .bool fin, dv, .slice none 0 0]

theorem told_calls {b : Nat} {id credit fresh fin : Int} {lv cv : Value} {last reset : Bool} {A : Option Addr} {n c : Nat} {bs : List Value} {f t : Nat}
    (hs : Sl w0 R 1 A n bs) (hft : f ≤ t) (htn : t ≤ n) (hn : n ≤ 1048576) (hc : n ≤ c) :
    CH Try.prog w0 53 #[.pointer (some ⟨b, 0, none⟩), .agg #[.int .i64 f, .int .i64 t]] (pt b (.cells (sndC id credit (.slice A n c) fresh lv cv last fin reset) 105 (0, 0)) :: R) fun v R' =>
      ∃ gd, v = .tuple #[.agg (frmC id f (last && t == n) (.slice (some ⟨gd, 0, none⟩) (t - f) (t - f))), .bool true] ∧
        R' = pt gd (.cells ((bs.drop f).take (t - f)).toArray 5 (0, 0)) :: pt b (.cells (sndC id credit (.slice A n c) fresh lv cv last (if last && t == n && fin != 3 then 1 else fin) reset) 105 (0, 0)) :: R := by
  unfold sndC
  refine CH_of Try.func53 rfl fun K kn kr kp => ?_
  simp only [Try.ntmps53, List.size_toArray, List.length_cons, List.length_nil, Nat.reduceAdd, Nat.reduceSub, Array.replicate_succ, Array.replicate_zero, List.push_toArray, List.append_toArray, List.nil_append, List.cons_append]
  refine HC_seq fun N1 hN1 => ?_
  refine HC_region ?_
  refine' HL_s rfl rfl (SO_box (Ev.tmp rfl) rfl) ?_
  rintro _ _ ⟨g3, rfl, rfl⟩
  simp only [List.set_cons_zero, List.set_cons_succ, Int.toNat_natCast, Nat.reduceAdd, Nat.reduceMul, Int.reduceToNat, List.getElem_toArray, List.getElem_cons_zero, List.getElem_cons_succ, cells_agg, cells_int, cells_bool, cells_slice, cells_ptr]
  refine' HL_s rfl rfl (SO_alloc Try.zeroValue36 rfl) ?_
  rintro _ _ ⟨g4, rfl, rfl⟩
  simp only [List.set_cons_zero, List.set_cons_succ, Int.toNat_natCast, Nat.reduceAdd, Nat.reduceMul, Int.reduceToNat, List.getElem_toArray, List.getElem_cons_zero, List.getElem_cons_succ, cells_agg, cells_int, cells_bool, cells_slice, cells_ptr]
  refine' HL_q rfl rfl (QV_assign Ev.const) ?_
  simp only [List.set_cons_zero, List.set_cons_succ, Int.toNat_natCast, Nat.reduceAdd, Nat.reduceMul, Int.reduceToNat, List.getElem_toArray, List.getElem_cons_zero, List.getElem_cons_succ, cells_agg, cells_int, cells_bool, cells_slice, cells_ptr]
  refine HL_nil ?_
  refine hN1 _ _ ?_
  try clear hN1 N1
  have e1 : ((t : Int) - (f : Int)).toNat = t - f := by omega
  refine HC_mid [6] [false, false, false, false, false, false, false, true, true, true, true, true, true, true, true, true, true, true] (fun vs RR => ∃ (g6 gd : Nat), vs = [(.pointer (some ⟨g6, 0, none⟩))] ∧ RR = pt gd (.cells (madeCells #[.int .u8 0] (t - f)) 5 (0, 0)) :: pt g6 (.cells #[.int .u8 7, .int .u64 id, .int .u64 f, .int .u64 0, .int .u64 0, .bool false, .slice (some ⟨gd, 0, none⟩) (t - f) (t - f), .slice none 0 0] 36 (0, 0)) :: pt g4 (.cells #[.int .u8 0, .int .u64 0, .int .u64 0, .int .u64 0, .int .u64 0, .bool false, .slice none 0 0, .slice none 0 0] 36 (0, 0)) :: pt g3 (.cells #[.int .i64 f, .int .i64 t] 107 (0, 0)) :: pt b (.cells #[.int .i64 1, .int .u64 id, .int .u64 credit, .slice A n c, .int .i64 fresh, lv, cv, .bool last, .int .i64 fin, .bool reset] 105 (0, 0)) :: R) (fun NM2 hM2 => ?first) ?rest
  case first =>
    refine HC_draw 12 [] _ mixed rfl ?_
    refine' DA_take (i := 0) rfl (by kernel_rfl) (fun _ _ _ _ h => (kp _ _ _ h).elim) rfl (QV_move (Ev.tmp rfl)) ?_
    simp only [List.set_cons_zero, List.set_cons_succ, Int.toNat_natCast, Nat.reduceAdd, Nat.reduceMul, Int.reduceToNat, List.getElem_toArray, List.getElem_cons_zero, List.getElem_cons_succ, cells_agg, cells_int, cells_bool, cells_slice, cells_ptr, e1]
    refine' DA_take (i := 1) rfl (by kernel_rfl) (fun _ _ _ _ h => (kp _ _ _ h).elim) rfl (QV_nil (Ev.tmp rfl)) ?_
    simp only [List.set_cons_zero, List.set_cons_succ, Int.toNat_natCast, Nat.reduceAdd, Nat.reduceMul, Int.reduceToNat, List.getElem_toArray, List.getElem_cons_zero, List.getElem_cons_succ, cells_agg, cells_int, cells_bool, cells_slice, cells_ptr, e1]
    refine' DA_take (i := 2) rfl (by kernel_rfl) (fun _ _ _ _ h => (kp _ _ _ h).elim) rfl (QV_field (Ev.tmp rfl) (fld105_1 _ _)) ?_
    simp only [List.set_cons_zero, List.set_cons_succ, Int.toNat_natCast, Nat.reduceAdd, Nat.reduceMul, Int.reduceToNat, List.getElem_toArray, List.getElem_cons_zero, List.getElem_cons_succ, cells_agg, cells_int, cells_bool, cells_slice, cells_ptr, e1]
    first
      | (refine' DA_take (i := 3) rfl (by kernel_rfl) (fun _ _ _ _ h => (kp _ _ _ h).elim) rfl (QV_load1 (Ev.tmp rfl) Try.isAgg30 ?hm ?hv) ?_; (case hm => (repeat (first | exact List.Mem.head _ | assumption | exact List.mem_of_getElem? (by assumption) | exact mem_set_self (by assumption) | apply List.Mem.tail))); (case hv => (first | rfl | assumption)))
      | (refine' DA_take (i := 3) rfl (by kernel_rfl) (fun _ _ _ _ h => (kp _ _ _ h).elim) rfl (QV_loadR (Ev.tmp rfl) ?hp Try.isAgg30 ?hs ?hv) ?_; (case hs => (first | assumption | (refine' Sl.sub (by assumption) ?_; (repeat (first | with_reducible exact List.Sublist.refl _ | with_reducible apply List.Sublist.cons_cons | with_reducible apply List.Sublist.cons))))); (case hv => (first  | rfl | assumption)); (case hp => (first | rfl | omega)))
    simp only [List.set_cons_zero, List.set_cons_succ, Int.toNat_natCast, Nat.reduceAdd, Nat.reduceMul, Int.reduceToNat, List.getElem_toArray, List.getElem_cons_zero, List.getElem_cons_succ, cells_agg, cells_int, cells_bool, cells_slice, cells_ptr, e1]
    refine' DA_take (i := 4) rfl (by kernel_rfl) (fun _ _ _ _ h => (kp _ _ _ h).elim) rfl (QV_field (Ev.tmp rfl) (fld107_0 _ _)) ?_
    simp only [List.set_cons_zero, List.set_cons_succ, Int.toNat_natCast, Nat.reduceAdd, Nat.reduceMul, Int.reduceToNat, List.getElem_toArray, List.getElem_cons_zero, List.getElem_cons_succ, cells_agg, cells_int, cells_bool, cells_slice, cells_ptr, e1]
    first
      | (refine' DA_take (i := 5) rfl (by kernel_rfl) (fun _ _ _ _ h => (kp _ _ _ h).elim) rfl (QV_load1 (Ev.tmp rfl) Try.isAgg3 ?hm ?hv) ?_; (case hm => (repeat (first | exact List.Mem.head _ | assumption | exact List.mem_of_getElem? (by assumption) | exact mem_set_self (by assumption) | apply List.Mem.tail))); (case hv => (first | rfl | assumption)))
      | (refine' DA_take (i := 5) rfl (by kernel_rfl) (fun _ _ _ _ h => (kp _ _ _ h).elim) rfl (QV_loadR (Ev.tmp rfl) ?hp Try.isAgg3 ?hs ?hv) ?_; (case hs => (first | assumption | (refine' Sl.sub (by assumption) ?_; (repeat (first | with_reducible exact List.Sublist.refl _ | with_reducible apply List.Sublist.cons_cons | with_reducible apply List.Sublist.cons))))); (case hv => (first  | rfl | assumption)); (case hp => (first | rfl | omega)))
    simp only [List.set_cons_zero, List.set_cons_succ, Int.toNat_natCast, Nat.reduceAdd, Nat.reduceMul, Int.reduceToNat, List.getElem_toArray, List.getElem_cons_zero, List.getElem_cons_succ, cells_agg, cells_int, cells_bool, cells_slice, cells_ptr, e1]
    refine' DA_take (i := 6) rfl (by kernel_rfl) (fun _ _ _ _ h => (kp _ _ _ h).elim) rfl (QV_cvt Try.underlying3 Try.underlying30 rfl (Ev.tmp rfl) ?hr) ?_
    case hr => first | exact IntWalk.i64_in _ (by omega) | exact IntWalk.u64_in _ (by omega) | exact IntWalk.u8_in _ (by omega) | exact IntWalk.u32_in _ (by omega) | exact IntWalk.i64_quo _ _ (by omega) | exact IntWalk.u64_quo _ _ (by omega) | rfl
    simp only [List.set_cons_zero, List.set_cons_succ, Int.toNat_natCast, Nat.reduceAdd, Nat.reduceMul, Int.reduceToNat, List.getElem_toArray, List.getElem_cons_zero, List.getElem_cons_succ, cells_agg, cells_int, cells_bool, cells_slice, cells_ptr, e1]
    first
      | (refine' DA_take (i := 7) rfl (by kernel_rfl) (fun _ _ _ _ h => (kp _ _ _ h).elim) rfl (QV_loadA (Ev.tmp rfl) Try.isAgg107 Try.sizeOf107 ?hm ?hv ?hn) ?_; (case hm => (repeat (first | exact List.Mem.head _ | assumption | exact List.mem_of_getElem? (by assumption) | exact mem_set_self (by assumption) | apply List.Mem.tail))); (case hv => (simp only [List.toList_toArray, List.take_succ_cons, List.take_zero, List.drop_succ_cons, List.drop_zero, List.take_nil]; rfl)); (case hn => rfl))
      | (refine' DA_take (i := 7) rfl (by kernel_rfl) (fun _ _ _ _ h => (kp _ _ _ h).elim) rfl (QV_loadRA (Ev.tmp rfl) ?hp Try.isAgg107 Try.sizeOf107 ?hs ?hv ?hn) ?_; (case hs => (first | assumption | (refine' Sl.sub (by assumption) ?_; (repeat (first | with_reducible exact List.Sublist.refl _ | with_reducible apply List.Sublist.cons_cons | with_reducible apply List.Sublist.cons))))); (case hv => (first  | rfl)); (case hp => (first | rfl | omega)); (case hn => rfl))
    simp only [List.set_cons_zero, List.set_cons_succ, Int.toNat_natCast, Nat.reduceAdd, Nat.reduceMul, Int.reduceToNat, List.getElem_toArray, List.getElem_cons_zero, List.getElem_cons_succ, cells_agg, cells_int, cells_bool, cells_slice, cells_ptr, e1]
    refine DA_two (i := 8) (i' := 11) (by kernel_rfl) ?_ ?_
    · skip
      refine' DB_call (i := 8) rfl rfl en51 (call_fn (EvL.cons (Ev.tmp rfl) EvL.nil).evs) ((runlen (by omega) (by omega) (by omega) (by omega))) ?_
      rintro _ _ ⟨rfl, rfl⟩
      refine ⟨_, rfl, ?_⟩
      simp only [List.set_cons_zero, List.set_cons_succ, Int.toNat_natCast, Nat.reduceAdd, Nat.reduceMul, Int.reduceToNat, List.getElem_toArray, List.getElem_cons_zero, List.getElem_cons_succ, cells_agg, cells_int, cells_bool, cells_slice, cells_ptr, e1]
      refine DA_two (i := 9) (i' := 11) (by kernel_rfl) ?_ ?_
      · skip
        refine' DB_s (i := 9) rfl rfl rfl (SO_make (Ev.tmp rfl) (Ev.tmp rfl) ?hrun) ?_
        case hrun => exact fun w => run_made w Try.underlying22 inf5 rfl (by omega) (by omega)
        rintro _ _ ⟨g16, rfl, rfl⟩
        refine ⟨_ :: _, rfl, ?_⟩
        simp only [List.set_cons_zero, List.set_cons_succ, Int.toNat_natCast, Nat.reduceAdd, Nat.reduceMul, Int.reduceToNat, List.getElem_toArray, List.getElem_cons_zero, List.getElem_cons_succ, cells_agg, cells_int, cells_bool, cells_slice, cells_ptr, e1]
        refine' DA_take (i := 10) rfl (by kernel_rfl) (fun _ _ _ _ h => (kp _ _ _ h).elim) rfl (QV_buildS (EvL.cons Ev.const (EvL.cons (Ev.tmp rfl) (EvL.cons (Ev.tmp rfl) (EvL.cons (Ev.tmp rfl) EvL.nil)))) Try.zeroValue36 Try.underlying36 (plc36 _ Try.underlying36) rfl) ?_
        simp only [putAll, offOf, List.map_cons, List.map_nil, List.zip_cons_cons, List.zip_nil_left, List.zip_nil_right, List.getElem?_cons_zero, List.getElem?_cons_succ, List.set_cons_zero, List.set_cons_succ, Int.toNat_natCast, Nat.reduceAdd, Nat.reduceMul, Int.reduceToNat, List.getElem_toArray, List.getElem_cons_zero, List.getElem_cons_succ, cells_agg, cells_int, cells_bool, cells_slice, cells_ptr, e1]
        refine DA_one (i := 11) (by kernel_rfl) ?_
        refine' (DB_alloc (i := 11) rfl rfl Try.zeroValue36 rfl ?_)
        intro g6
        simp only [List.set_cons_zero, List.set_cons_succ, Int.toNat_natCast, Nat.reduceAdd, Nat.reduceMul, Int.reduceToNat, List.getElem_toArray, List.getElem_cons_zero, List.getElem_cons_succ, cells_agg, cells_int, cells_bool, cells_slice, cells_ptr, e1]
        refine DA_cut (q1 := 13) (by kernel_rfl) rfl ?_
        try simp only [List.nil_append, List.cons_append]
        refine DA_one (i := 12) (by kernel_rfl) ?_
        refine' DB_z (i := 12) rfl rfl rfl (SO_store (Ev.tmp rfl) (Ev.tmp rfl) Try.sizeOf36 ?hvs ?hn ?h1 ?hm ?hfit) ?_
        case hvs => rfl
        case hn => rfl
        case h1 => rfl
        case hm => (repeat (first | with_reducible exact Upd.head | exact Upd.at_ (by assumption) | exact Upd.set (by assumption) | apply Upd.tail))
        case hfit => simp
        rintro _ _ ⟨rfl, rfl⟩
        simp only [spl, List.set_cons_zero, List.set_cons_succ, List.toList_toArray, List.take_succ_cons, List.take_zero, List.drop_succ_cons, List.drop_zero, List.nil_append, List.cons_append, List.append_nil, List.length_cons, List.length_nil, Nat.zero_add, Nat.reduceAdd, List.take_nil, List.drop_nil]
        refine DA_end (by kernel_rfl) ?_
        try simp only [List.nil_append, List.cons_append]
        simp only [thenK]
        refine' meetM hM2 (Gets.cons rfl Gets.nil) ?ag1 ?le ⟨_, g16, rfl, rfl⟩
        case ag1 => (simp only [setL, List.set_cons_zero, List.set_cons_succ]; exact (Ag.keep (Ag.keep (Ag.keep (Ag.keep (Ag.keep (Ag.keep (Ag.keep (Ag.any (Ag.any (Ag.any (Ag.any (Ag.any (Ag.any (Ag.any (Ag.any (Ag.any (Ag.any (Ag.any Ag.nil)))))))))))))))))))
        case le => (first | with_reducible exact Le.refl | (refine Le.of ?_; (repeat (first | with_reducible exact Sp.refl | with_reducible exact Sp.nil | (apply Sp.pick; focus ((repeat (first | with_reducible exact Rm.head | with_reducible apply Rm.tail)); done)) | with_reducible refine Sp.drop ?_))))
      · skip
        refine' (DB_alloc (i := 11) rfl rfl Try.zeroValue36 rfl ?_)
        intro g6
        simp only [List.set_cons_zero, List.set_cons_succ, Int.toNat_natCast, Nat.reduceAdd, Nat.reduceMul, Int.reduceToNat, List.getElem_toArray, List.getElem_cons_zero, List.getElem_cons_succ, cells_agg, cells_int, cells_bool, cells_slice, cells_ptr, e1]
        refine DA_one (i := 9) (by kernel_rfl) ?_
        refine' DB_s (i := 9) rfl rfl rfl (SO_make (Ev.tmp rfl) (Ev.tmp rfl) ?hrun) ?_
        case hrun => exact fun w => run_made w Try.underlying22 inf5 rfl (by omega) (by omega)
        rintro _ _ ⟨g16, rfl, rfl⟩
        refine ⟨_ :: _, rfl, ?_⟩
        simp only [List.set_cons_zero, List.set_cons_succ, Int.toNat_natCast, Nat.reduceAdd, Nat.reduceMul, Int.reduceToNat, List.getElem_toArray, List.getElem_cons_zero, List.getElem_cons_succ, cells_agg, cells_int, cells_bool, cells_slice, cells_ptr, e1]
        refine' DA_take (i := 10) rfl (by kernel_rfl) (fun _ _ _ _ h => (kp _ _ _ h).elim) rfl (QV_buildS (EvL.cons Ev.const (EvL.cons (Ev.tmp rfl) (EvL.cons (Ev.tmp rfl) (EvL.cons (Ev.tmp rfl) EvL.nil)))) Try.zeroValue36 Try.underlying36 (plc36 _ Try.underlying36) rfl) ?_
        simp only [putAll, offOf, List.map_cons, List.map_nil, List.zip_cons_cons, List.zip_nil_left, List.zip_nil_right, List.getElem?_cons_zero, List.getElem?_cons_succ, List.set_cons_zero, List.set_cons_succ, Int.toNat_natCast, Nat.reduceAdd, Nat.reduceMul, Int.reduceToNat, List.getElem_toArray, List.getElem_cons_zero, List.getElem_cons_succ, cells_agg, cells_int, cells_bool, cells_slice, cells_ptr, e1]
        refine DA_cut (q1 := 13) (by kernel_rfl) rfl ?_
        try simp only [List.nil_append, List.cons_append]
        refine DA_one (i := 12) (by kernel_rfl) ?_
        refine' DB_z (i := 12) rfl rfl rfl (SO_store (Ev.tmp rfl) (Ev.tmp rfl) Try.sizeOf36 ?hvs ?hn ?h1 ?hm ?hfit) ?_
        case hvs => rfl
        case hn => rfl
        case h1 => rfl
        case hm => (repeat (first | with_reducible exact Upd.head | exact Upd.at_ (by assumption) | exact Upd.set (by assumption) | apply Upd.tail))
        case hfit => simp
        rintro _ _ ⟨rfl, rfl⟩
        simp only [spl, List.set_cons_zero, List.set_cons_succ, List.toList_toArray, List.take_succ_cons, List.take_zero, List.drop_succ_cons, List.drop_zero, List.nil_append, List.cons_append, List.append_nil, List.length_cons, List.length_nil, Nat.zero_add, Nat.reduceAdd, List.take_nil, List.drop_nil]
        refine DA_end (by kernel_rfl) ?_
        try simp only [List.nil_append, List.cons_append]
        simp only [thenK]
        refine' meetM hM2 (Gets.cons rfl Gets.nil) ?ag1 ?le ⟨_, g16, rfl, rfl⟩
        case ag1 => (simp only [setL, List.set_cons_zero, List.set_cons_succ]; exact (Ag.keep (Ag.keep (Ag.keep (Ag.keep (Ag.keep (Ag.keep (Ag.keep (Ag.any (Ag.any (Ag.any (Ag.any (Ag.any (Ag.any (Ag.any (Ag.any (Ag.any (Ag.any (Ag.any Ag.nil)))))))))))))))))))
        case le => (first | with_reducible exact Le.refl | (refine Le.of ?_; (repeat (first | with_reducible exact Sp.refl | with_reducible exact Sp.nil | (apply Sp.pick; focus ((repeat (first | with_reducible exact Rm.head | with_reducible apply Rm.tail)); done)) | with_reducible refine Sp.drop ?_))))
    · skip
      refine' (DB_alloc (i := 11) rfl rfl Try.zeroValue36 rfl ?_)
      intro g6
      simp only [List.set_cons_zero, List.set_cons_succ, Int.toNat_natCast, Nat.reduceAdd, Nat.reduceMul, Int.reduceToNat, List.getElem_toArray, List.getElem_cons_zero, List.getElem_cons_succ, cells_agg, cells_int, cells_bool, cells_slice, cells_ptr, e1]
      refine DA_one (i := 8) (by kernel_rfl) ?_
      refine' DB_call (i := 8) rfl rfl en51 (call_fn (EvL.cons (Ev.tmp rfl) EvL.nil).evs) ((runlen (by omega) (by omega) (by omega) (by omega))) ?_
      rintro _ _ ⟨rfl, rfl⟩
      refine ⟨_, rfl, ?_⟩
      simp only [List.set_cons_zero, List.set_cons_succ, Int.toNat_natCast, Nat.reduceAdd, Nat.reduceMul, Int.reduceToNat, List.getElem_toArray, List.getElem_cons_zero, List.getElem_cons_succ, cells_agg, cells_int, cells_bool, cells_slice, cells_ptr, e1]
      refine DA_one (i := 9) (by kernel_rfl) ?_
      refine' DB_s (i := 9) rfl rfl rfl (SO_make (Ev.tmp rfl) (Ev.tmp rfl) ?hrun) ?_
      case hrun => exact fun w => run_made w Try.underlying22 inf5 rfl (by omega) (by omega)
      rintro _ _ ⟨g16, rfl, rfl⟩
      refine ⟨_ :: _, rfl, ?_⟩
      simp only [List.set_cons_zero, List.set_cons_succ, Int.toNat_natCast, Nat.reduceAdd, Nat.reduceMul, Int.reduceToNat, List.getElem_toArray, List.getElem_cons_zero, List.getElem_cons_succ, cells_agg, cells_int, cells_bool, cells_slice, cells_ptr, e1]
      refine' DA_take (i := 10) rfl (by kernel_rfl) (fun _ _ _ _ h => (kp _ _ _ h).elim) rfl (QV_buildS (EvL.cons Ev.const (EvL.cons (Ev.tmp rfl) (EvL.cons (Ev.tmp rfl) (EvL.cons (Ev.tmp rfl) EvL.nil)))) Try.zeroValue36 Try.underlying36 (plc36 _ Try.underlying36) rfl) ?_
      simp only [putAll, offOf, List.map_cons, List.map_nil, List.zip_cons_cons, List.zip_nil_left, List.zip_nil_right, List.getElem?_cons_zero, List.getElem?_cons_succ, List.set_cons_zero, List.set_cons_succ, Int.toNat_natCast, Nat.reduceAdd, Nat.reduceMul, Int.reduceToNat, List.getElem_toArray, List.getElem_cons_zero, List.getElem_cons_succ, cells_agg, cells_int, cells_bool, cells_slice, cells_ptr, e1]
      refine DA_cut (q1 := 13) (by kernel_rfl) rfl ?_
      try simp only [List.nil_append, List.cons_append]
      refine DA_one (i := 12) (by kernel_rfl) ?_
      refine' DB_z (i := 12) rfl rfl rfl (SO_store (Ev.tmp rfl) (Ev.tmp rfl) Try.sizeOf36 ?hvs ?hn ?h1 ?hm ?hfit) ?_
      case hvs => rfl
      case hn => rfl
      case h1 => rfl
      case hm => (repeat (first | with_reducible exact Upd.head | exact Upd.at_ (by assumption) | exact Upd.set (by assumption) | apply Upd.tail))
      case hfit => simp
      rintro _ _ ⟨rfl, rfl⟩
      simp only [spl, List.set_cons_zero, List.set_cons_succ, List.toList_toArray, List.take_succ_cons, List.take_zero, List.drop_succ_cons, List.drop_zero, List.nil_append, List.cons_append, List.append_nil, List.length_cons, List.length_nil, Nat.zero_add, Nat.reduceAdd, List.take_nil, List.drop_nil]
      refine DA_end (by kernel_rfl) ?_
      try simp only [List.nil_append, List.cons_append]
      simp only [thenK]
      refine' meetM hM2 (Gets.cons rfl Gets.nil) ?ag1 ?le ⟨_, g16, rfl, rfl⟩
      case ag1 => (simp only [setL, List.set_cons_zero, List.set_cons_succ]; exact (Ag.keep (Ag.keep (Ag.keep (Ag.keep (Ag.keep (Ag.keep (Ag.keep (Ag.any (Ag.any (Ag.any (Ag.any (Ag.any (Ag.any (Ag.any (Ag.any (Ag.any (Ag.any (Ag.any Ag.nil)))))))))))))))))))
      case le => (first | with_reducible exact Le.refl | (refine Le.of ?_; (repeat (first | with_reducible exact Sp.refl | with_reducible exact Sp.nil | (apply Sp.pick; focus ((repeat (first | with_reducible exact Rm.head | with_reducible apply Rm.tail)); done)) | with_reducible refine Sp.drop ?_))))
  case rest =>
    rintro _ _ u ⟨g6, gd, rfl, rfl⟩
    simp only [setL, fill, List.set_cons_zero, List.set_cons_succ, Nat.zero_add, Nat.reduceAdd]
    have hcp : ((bs.drop f).take (t - f)).length = t - f := by have := hs.len; simp; omega
    have hsrc : Sl w0 R 1 (if c = f then A else A.map (·.add (f * 1))) (t - f) ((bs.drop f).take (t - f)) := by
      have h := hs.cutA hft htn hc
      rwa [show (bs.drop (f * 1)).take ((t - f) * 1) = (bs.drop f).take (t - f) by simp] at h
    have hsp : spl (madeCells #[.int .u8 0] (t - f)) 0 ((bs.drop f).take (t - f)) = ((bs.drop f).take (t - f)).toArray := spl_whole (by rw [hcp, size_madeCells])
    refine HC_seq fun N3 hN3 => ?_
    refine HC_draw 12 [_] _ mixed rfl ?_
    refine' DA_take (i := 0) rfl (by kernel_rfl) (fun _ _ _ _ h => (kp _ _ _ h).elim) rfl (QV_field (Ev.tmp rfl) (fld36_6 _ _)) ?_
    simp only [List.set_cons_zero, List.set_cons_succ, Int.toNat_natCast, Nat.reduceAdd, Nat.reduceMul, Int.reduceToNat, List.getElem_toArray, List.getElem_cons_zero, List.getElem_cons_succ, cells_agg, cells_int, cells_bool, cells_slice, cells_ptr, e1]
    first
      | (refine' DA_take (i := 1) rfl (by kernel_rfl) (fun _ _ _ _ h => (kp _ _ _ h).elim) rfl (QV_load1 (Ev.tmp rfl) Try.isAgg22 ?hm ?hv) ?_; (case hm => (repeat (first | exact List.Mem.head _ | assumption | exact List.mem_of_getElem? (by assumption) | exact mem_set_self (by assumption) | apply List.Mem.tail))); (case hv => (first | rfl | assumption)))
      | (refine' DA_take (i := 1) rfl (by kernel_rfl) (fun _ _ _ _ h => (kp _ _ _ h).elim) rfl (QV_loadR (Ev.tmp rfl) ?hp Try.isAgg22 ?hs ?hv) ?_; (case hs => (first | assumption | (refine' Sl.sub (by assumption) ?_; (repeat (first | with_reducible exact List.Sublist.refl _ | with_reducible apply List.Sublist.cons_cons | with_reducible apply List.Sublist.cons))))); (case hv => (first  | rfl | assumption)); (case hp => (first | rfl | omega)))
    simp only [List.set_cons_zero, List.set_cons_succ, Int.toNat_natCast, Nat.reduceAdd, Nat.reduceMul, Int.reduceToNat, List.getElem_toArray, List.getElem_cons_zero, List.getElem_cons_succ, cells_agg, cells_int, cells_bool, cells_slice, cells_ptr, e1]
    refine' DA_take (i := 2) rfl (by kernel_rfl) (fun _ _ _ _ h => (kp _ _ _ h).elim) rfl (QV_move (Ev.tmp rfl)) ?_
    simp only [List.set_cons_zero, List.set_cons_succ, Int.toNat_natCast, Nat.reduceAdd, Nat.reduceMul, Int.reduceToNat, List.getElem_toArray, List.getElem_cons_zero, List.getElem_cons_succ, cells_agg, cells_int, cells_bool, cells_slice, cells_ptr, e1]
    refine' DA_take (i := 3) rfl (by kernel_rfl) (fun _ _ _ _ h => (kp _ _ _ h).elim) rfl (QV_nil (Ev.tmp rfl)) ?_
    simp only [List.set_cons_zero, List.set_cons_succ, Int.toNat_natCast, Nat.reduceAdd, Nat.reduceMul, Int.reduceToNat, List.getElem_toArray, List.getElem_cons_zero, List.getElem_cons_succ, cells_agg, cells_int, cells_bool, cells_slice, cells_ptr, e1]
    refine' DA_take (i := 4) rfl (by kernel_rfl) (fun _ _ _ _ h => (kp _ _ _ h).elim) rfl (QV_field (Ev.tmp rfl) (fld105_3 _ _)) ?_
    simp only [List.set_cons_zero, List.set_cons_succ, Int.toNat_natCast, Nat.reduceAdd, Nat.reduceMul, Int.reduceToNat, List.getElem_toArray, List.getElem_cons_zero, List.getElem_cons_succ, cells_agg, cells_int, cells_bool, cells_slice, cells_ptr, e1]
    first
      | (refine' DA_take (i := 5) rfl (by kernel_rfl) (fun _ _ _ _ h => (kp _ _ _ h).elim) rfl (QV_load1 (Ev.tmp rfl) Try.isAgg22 ?hm ?hv) ?_; (case hm => (repeat (first | exact List.Mem.head _ | assumption | exact List.mem_of_getElem? (by assumption) | exact mem_set_self (by assumption) | apply List.Mem.tail))); (case hv => (first | rfl | assumption)))
      | (refine' DA_take (i := 5) rfl (by kernel_rfl) (fun _ _ _ _ h => (kp _ _ _ h).elim) rfl (QV_loadR (Ev.tmp rfl) ?hp Try.isAgg22 ?hs ?hv) ?_; (case hs => (first | assumption | (refine' Sl.sub (by assumption) ?_; (repeat (first | with_reducible exact List.Sublist.refl _ | with_reducible apply List.Sublist.cons_cons | with_reducible apply List.Sublist.cons))))); (case hv => (first  | rfl | assumption)); (case hp => (first | rfl | omega)))
    simp only [List.set_cons_zero, List.set_cons_succ, Int.toNat_natCast, Nat.reduceAdd, Nat.reduceMul, Int.reduceToNat, List.getElem_toArray, List.getElem_cons_zero, List.getElem_cons_succ, cells_agg, cells_int, cells_bool, cells_slice, cells_ptr, e1]
    refine' DA_take (i := 6) rfl (by kernel_rfl) (fun _ _ _ _ h => (kp _ _ _ h).elim) rfl (QV_field (Ev.tmp rfl) (fld107_0 _ _)) ?_
    simp only [List.set_cons_zero, List.set_cons_succ, Int.toNat_natCast, Nat.reduceAdd, Nat.reduceMul, Int.reduceToNat, List.getElem_toArray, List.getElem_cons_zero, List.getElem_cons_succ, cells_agg, cells_int, cells_bool, cells_slice, cells_ptr, e1]
    first
      | (refine' DA_take (i := 7) rfl (by kernel_rfl) (fun _ _ _ _ h => (kp _ _ _ h).elim) rfl (QV_load1 (Ev.tmp rfl) Try.isAgg3 ?hm ?hv) ?_; (case hm => (repeat (first | exact List.Mem.head _ | assumption | exact List.mem_of_getElem? (by assumption) | exact mem_set_self (by assumption) | apply List.Mem.tail))); (case hv => (first | rfl | assumption)))
      | (refine' DA_take (i := 7) rfl (by kernel_rfl) (fun _ _ _ _ h => (kp _ _ _ h).elim) rfl (QV_loadR (Ev.tmp rfl) ?hp Try.isAgg3 ?hs ?hv) ?_; (case hs => (first | assumption | (refine' Sl.sub (by assumption) ?_; (repeat (first | with_reducible exact List.Sublist.refl _ | with_reducible apply List.Sublist.cons_cons | with_reducible apply List.Sublist.cons))))); (case hv => (first  | rfl | assumption)); (case hp => (first | rfl | omega)))
    simp only [List.set_cons_zero, List.set_cons_succ, Int.toNat_natCast, Nat.reduceAdd, Nat.reduceMul, Int.reduceToNat, List.getElem_toArray, List.getElem_cons_zero, List.getElem_cons_succ, cells_agg, cells_int, cells_bool, cells_slice, cells_ptr, e1]
    refine' DA_take (i := 8) rfl (by kernel_rfl) (fun _ _ _ _ h => (kp _ _ _ h).elim) rfl (QV_field (Ev.tmp rfl) (fld107_1 _ _)) ?_
    simp only [List.set_cons_zero, List.set_cons_succ, Int.toNat_natCast, Nat.reduceAdd, Nat.reduceMul, Int.reduceToNat, List.getElem_toArray, List.getElem_cons_zero, List.getElem_cons_succ, cells_agg, cells_int, cells_bool, cells_slice, cells_ptr, e1]
    first
      | (refine' DA_take (i := 9) rfl (by kernel_rfl) (fun _ _ _ _ h => (kp _ _ _ h).elim) rfl (QV_load1 (Ev.tmp rfl) Try.isAgg3 ?hm ?hv) ?_; (case hm => (repeat (first | exact List.Mem.head _ | assumption | exact List.mem_of_getElem? (by assumption) | exact mem_set_self (by assumption) | apply List.Mem.tail))); (case hv => (first | rfl | assumption)))
      | (refine' DA_take (i := 9) rfl (by kernel_rfl) (fun _ _ _ _ h => (kp _ _ _ h).elim) rfl (QV_loadR (Ev.tmp rfl) ?hp Try.isAgg3 ?hs ?hv) ?_; (case hs => (first | assumption | (refine' Sl.sub (by assumption) ?_; (repeat (first | with_reducible exact List.Sublist.refl _ | with_reducible apply List.Sublist.cons_cons | with_reducible apply List.Sublist.cons))))); (case hv => (first  | rfl | assumption)); (case hp => (first | rfl | omega)))
    simp only [List.set_cons_zero, List.set_cons_succ, Int.toNat_natCast, Nat.reduceAdd, Nat.reduceMul, Int.reduceToNat, List.getElem_toArray, List.getElem_cons_zero, List.getElem_cons_succ, cells_agg, cells_int, cells_bool, cells_slice, cells_ptr, e1]
    refine' DA_take (i := 10) rfl (by kernel_rfl) (fun _ _ _ _ h => (kp _ _ _ h).elim) rfl (QV_cut (Ev.tmp rfl) (Ev.tmp rfl) (Ev.tmp rfl) Try.underlying22 Try.sizeOf5 ?h0 ?h1 ?h2) ?_
    case h0 => omega
    case h1 => omega
    case h2 => omega
    simp only [List.set_cons_zero, List.set_cons_succ, Int.toNat_natCast, Nat.reduceAdd, Nat.reduceMul, Int.reduceToNat, List.getElem_toArray, List.getElem_cons_zero, List.getElem_cons_succ, cells_agg, cells_int, cells_bool, cells_slice, cells_ptr, e1]
    refine DA_one (i := 11) (by kernel_rfl) ?_
    refine' (DB_s (i := 11) rfl rfl rfl (SO_copy (off := 0) (cs := (bs.drop f).take (t - f)) (Ev.tmp rfl) (Ev.tmp rfl) Try.underlying22 (by kernel_rfl) ?hn ?hdp ?hsrc ?hfit ?hm) ?_)
    case hn => (rw [hcp]; exact (Nat.min_self _).symm)
    case hdp => exact fun _ => rfl
    case hsrc => (rw [hcp]; refine hsrc.sub ?_; (repeat (first | exact List.Sublist.refl _ | apply List.Sublist.cons)))
    case hm => exact Upd.left Upd.head
    case hfit => (rw [hcp, size_madeCells]; omega)
    rintro _ _ ⟨rfl, rfl⟩
    refine ⟨_, rfl, ?_⟩
    simp only [hsp]
    simp only [List.set_cons_zero, List.set_cons_succ, Int.toNat_natCast, Nat.reduceAdd, Nat.reduceMul, Int.reduceToNat, List.getElem_toArray, List.getElem_cons_zero, List.getElem_cons_succ, cells_agg, cells_int, cells_bool, cells_slice, cells_ptr, e1]
    refine DA_done (by kernel_rfl) ?_
    try simp only [List.nil_append, List.cons_append]
    refine hN3 _ _ ?_
    try clear hN3 N3
    cases last
    · simp only [Bool.false_and, Bool.false_eq_true, if_false] at kr
      refine HC_seq fun N4 hN4 => ?_
      refine HC_seq fun N5 hN5 => ?_
      refine HC_draw 14 [] _ mixed rfl ?_
      refine' DA_take (i := 0) rfl (by kernel_rfl) (fun _ _ _ _ h => (kp _ _ _ h).elim) rfl (QV_move (Ev.tmp rfl)) ?_
      simp only [List.set_cons_zero, List.set_cons_succ, Int.toNat_natCast, Nat.reduceAdd, Nat.reduceMul, Int.reduceToNat, List.getElem_toArray, List.getElem_cons_zero, List.getElem_cons_succ, cells_agg, cells_int, cells_bool, cells_slice, cells_ptr, e1]
      refine' DA_take (i := 1) rfl (by kernel_rfl) (fun _ _ _ _ h => (kp _ _ _ h).elim) rfl (QV_nil (Ev.tmp rfl)) ?_
      simp only [List.set_cons_zero, List.set_cons_succ, Int.toNat_natCast, Nat.reduceAdd, Nat.reduceMul, Int.reduceToNat, List.getElem_toArray, List.getElem_cons_zero, List.getElem_cons_succ, cells_agg, cells_int, cells_bool, cells_slice, cells_ptr, e1]
      refine' DA_take (i := 2) rfl (by kernel_rfl) (fun _ _ _ _ h => (kp _ _ _ h).elim) rfl (QV_field (Ev.tmp rfl) (fld105_7 _ _)) ?_
      simp only [List.set_cons_zero, List.set_cons_succ, Int.toNat_natCast, Nat.reduceAdd, Nat.reduceMul, Int.reduceToNat, List.getElem_toArray, List.getElem_cons_zero, List.getElem_cons_succ, cells_agg, cells_int, cells_bool, cells_slice, cells_ptr, e1]
      first
        | (refine' DA_take (i := 3) rfl (by kernel_rfl) (fun _ _ _ _ h => (kp _ _ _ h).elim) rfl (QV_load1 (Ev.tmp rfl) Try.isAgg4 ?hm ?hv) ?_; (case hm => (repeat (first | exact List.Mem.head _ | assumption | exact List.mem_of_getElem? (by assumption) | exact mem_set_self (by assumption) | apply List.Mem.tail))); (case hv => (first | rfl | assumption)))
        | (refine' DA_take (i := 3) rfl (by kernel_rfl) (fun _ _ _ _ h => (kp _ _ _ h).elim) rfl (QV_loadR (Ev.tmp rfl) ?hp Try.isAgg4 ?hs ?hv) ?_; (case hs => (first | assumption | (refine' Sl.sub (by assumption) ?_; (repeat (first | with_reducible exact List.Sublist.refl _ | with_reducible apply List.Sublist.cons_cons | with_reducible apply List.Sublist.cons))))); (case hv => (first  | rfl | assumption)); (case hp => (first | rfl | omega)))
      simp only [List.set_cons_zero, List.set_cons_succ, Int.toNat_natCast, Nat.reduceAdd, Nat.reduceMul, Int.reduceToNat, List.getElem_toArray, List.getElem_cons_zero, List.getElem_cons_succ, cells_agg, cells_int, cells_bool, cells_slice, cells_ptr, e1]
      refine' DA_take (i := 4) rfl (by kernel_rfl) (fun _ _ _ _ h => (kp _ _ _ h).elim) rfl (QV_move (Ev.tmp rfl)) ?_
      simp only [List.set_cons_zero, List.set_cons_succ, Int.toNat_natCast, Nat.reduceAdd, Nat.reduceMul, Int.reduceToNat, List.getElem_toArray, List.getElem_cons_zero, List.getElem_cons_succ, cells_agg, cells_int, cells_bool, cells_slice, cells_ptr, e1]
      first
        | (refine' DA_skip (i := 5) rfl (by kernel_rfl) (fun _ _ _ _ h => (kp _ _ _ h).elim) rfl ?_; simp only [List.set_cons_zero, List.set_cons_succ, Int.toNat_natCast, Nat.reduceAdd, Nat.reduceMul, Int.reduceToNat, List.getElem_toArray, List.getElem_cons_zero, List.getElem_cons_succ, cells_agg, cells_int, cells_bool, cells_slice, cells_ptr, e1])
        |
          refine' DA_take (i := 5) rfl (by kernel_rfl) (fun _ _ _ _ h => (kp _ _ _ h).elim) rfl (QV_field (Ev.tmp rfl) (fld107_1 _ _)) ?_
          simp only [List.set_cons_zero, List.set_cons_succ, Int.toNat_natCast, Nat.reduceAdd, Nat.reduceMul, Int.reduceToNat, List.getElem_toArray, List.getElem_cons_zero, List.getElem_cons_succ, cells_agg, cells_int, cells_bool, cells_slice, cells_ptr, e1]
      first
        | (refine' DA_skip (i := 6) rfl (by kernel_rfl) (fun _ _ _ _ h => (kp _ _ _ h).elim) rfl ?_; simp only [List.set_cons_zero, List.set_cons_succ, Int.toNat_natCast, Nat.reduceAdd, Nat.reduceMul, Int.reduceToNat, List.getElem_toArray, List.getElem_cons_zero, List.getElem_cons_succ, cells_agg, cells_int, cells_bool, cells_slice, cells_ptr, e1])
        |
          first
            | (refine' DA_take (i := 6) rfl (by kernel_rfl) (fun _ _ _ _ h => (kp _ _ _ h).elim) rfl (QV_load1 (Ev.tmp rfl) Try.isAgg3 ?hm ?hv) ?_; (case hm => (repeat (first | exact List.Mem.head _ | assumption | exact List.mem_of_getElem? (by assumption) | exact mem_set_self (by assumption) | apply List.Mem.tail))); (case hv => (first | rfl | assumption)))
            | (refine' DA_take (i := 6) rfl (by kernel_rfl) (fun _ _ _ _ h => (kp _ _ _ h).elim) rfl (QV_loadR (Ev.tmp rfl) ?hp Try.isAgg3 ?hs ?hv) ?_; (case hs => (first | assumption | (refine' Sl.sub (by assumption) ?_; (repeat (first | with_reducible exact List.Sublist.refl _ | with_reducible apply List.Sublist.cons_cons | with_reducible apply List.Sublist.cons))))); (case hv => (first  | rfl | assumption)); (case hp => (first | rfl | omega)))
          simp only [List.set_cons_zero, List.set_cons_succ, Int.toNat_natCast, Nat.reduceAdd, Nat.reduceMul, Int.reduceToNat, List.getElem_toArray, List.getElem_cons_zero, List.getElem_cons_succ, cells_agg, cells_int, cells_bool, cells_slice, cells_ptr, e1]
      first
        | (refine' DA_skip (i := 7) rfl (by kernel_rfl) (fun _ _ _ _ h => (kp _ _ _ h).elim) rfl ?_; simp only [List.set_cons_zero, List.set_cons_succ, Int.toNat_natCast, Nat.reduceAdd, Nat.reduceMul, Int.reduceToNat, List.getElem_toArray, List.getElem_cons_zero, List.getElem_cons_succ, cells_agg, cells_int, cells_bool, cells_slice, cells_ptr, e1])
        |
          refine' DA_take (i := 7) rfl (by kernel_rfl) (fun _ _ _ _ h => (kp _ _ _ h).elim) rfl (QV_move (Ev.tmp rfl)) ?_
          simp only [List.set_cons_zero, List.set_cons_succ, Int.toNat_natCast, Nat.reduceAdd, Nat.reduceMul, Int.reduceToNat, List.getElem_toArray, List.getElem_cons_zero, List.getElem_cons_succ, cells_agg, cells_int, cells_bool, cells_slice, cells_ptr, e1]
      first
        | (refine' DA_skip (i := 8) rfl (by kernel_rfl) (fun _ _ _ _ h => (kp _ _ _ h).elim) rfl ?_; simp only [List.set_cons_zero, List.set_cons_succ, Int.toNat_natCast, Nat.reduceAdd, Nat.reduceMul, Int.reduceToNat, List.getElem_toArray, List.getElem_cons_zero, List.getElem_cons_succ, cells_agg, cells_int, cells_bool, cells_slice, cells_ptr, e1])
        |
          refine' DA_take (i := 8) rfl (by kernel_rfl) (fun _ _ _ _ h => (kp _ _ _ h).elim) rfl (QV_nil (Ev.tmp rfl)) ?_
          simp only [List.set_cons_zero, List.set_cons_succ, Int.toNat_natCast, Nat.reduceAdd, Nat.reduceMul, Int.reduceToNat, List.getElem_toArray, List.getElem_cons_zero, List.getElem_cons_succ, cells_agg, cells_int, cells_bool, cells_slice, cells_ptr, e1]
      first
        | (refine' DA_skip (i := 9) rfl (by kernel_rfl) (fun _ _ _ _ h => (kp _ _ _ h).elim) rfl ?_; simp only [List.set_cons_zero, List.set_cons_succ, Int.toNat_natCast, Nat.reduceAdd, Nat.reduceMul, Int.reduceToNat, List.getElem_toArray, List.getElem_cons_zero, List.getElem_cons_succ, cells_agg, cells_int, cells_bool, cells_slice, cells_ptr, e1])
        |
          refine' DA_take (i := 9) rfl (by kernel_rfl) (fun _ _ _ _ h => (kp _ _ _ h).elim) rfl (QV_field (Ev.tmp rfl) (fld105_3 _ _)) ?_
          simp only [List.set_cons_zero, List.set_cons_succ, Int.toNat_natCast, Nat.reduceAdd, Nat.reduceMul, Int.reduceToNat, List.getElem_toArray, List.getElem_cons_zero, List.getElem_cons_succ, cells_agg, cells_int, cells_bool, cells_slice, cells_ptr, e1]
      first
        | (refine' DA_skip (i := 10) rfl (by kernel_rfl) (fun _ _ _ _ h => (kp _ _ _ h).elim) rfl ?_; simp only [List.set_cons_zero, List.set_cons_succ, Int.toNat_natCast, Nat.reduceAdd, Nat.reduceMul, Int.reduceToNat, List.getElem_toArray, List.getElem_cons_zero, List.getElem_cons_succ, cells_agg, cells_int, cells_bool, cells_slice, cells_ptr, e1])
        |
          first
            | (refine' DA_take (i := 10) rfl (by kernel_rfl) (fun _ _ _ _ h => (kp _ _ _ h).elim) rfl (QV_load1 (Ev.tmp rfl) Try.isAgg22 ?hm ?hv) ?_; (case hm => (repeat (first | exact List.Mem.head _ | assumption | exact List.mem_of_getElem? (by assumption) | exact mem_set_self (by assumption) | apply List.Mem.tail))); (case hv => (first | rfl | assumption)))
            | (refine' DA_take (i := 10) rfl (by kernel_rfl) (fun _ _ _ _ h => (kp _ _ _ h).elim) rfl (QV_loadR (Ev.tmp rfl) ?hp Try.isAgg22 ?hs ?hv) ?_; (case hs => (first | assumption | (refine' Sl.sub (by assumption) ?_; (repeat (first | with_reducible exact List.Sublist.refl _ | with_reducible apply List.Sublist.cons_cons | with_reducible apply List.Sublist.cons))))); (case hv => (first  | rfl | assumption)); (case hp => (first | rfl | omega)))
          simp only [List.set_cons_zero, List.set_cons_succ, Int.toNat_natCast, Nat.reduceAdd, Nat.reduceMul, Int.reduceToNat, List.getElem_toArray, List.getElem_cons_zero, List.getElem_cons_succ, cells_agg, cells_int, cells_bool, cells_slice, cells_ptr, e1]
      first
        | (refine' DA_skip (i := 11) rfl (by kernel_rfl) (fun _ _ _ _ h => (kp _ _ _ h).elim) rfl ?_; simp only [List.set_cons_zero, List.set_cons_succ, Int.toNat_natCast, Nat.reduceAdd, Nat.reduceMul, Int.reduceToNat, List.getElem_toArray, List.getElem_cons_zero, List.getElem_cons_succ, cells_agg, cells_int, cells_bool, cells_slice, cells_ptr, e1])
        |
          refine' DA_take (i := 11) rfl (by kernel_rfl) (fun _ _ _ _ h => (kp _ _ _ h).elim) rfl (QV_len (Ev.tmp rfl) Try.underlying22) ?_
          simp only [List.set_cons_zero, List.set_cons_succ, Int.toNat_natCast, Nat.reduceAdd, Nat.reduceMul, Int.reduceToNat, List.getElem_toArray, List.getElem_cons_zero, List.getElem_cons_succ, cells_agg, cells_int, cells_bool, cells_slice, cells_ptr, e1]
      first
        | (refine' DA_skip (i := 12) rfl (by kernel_rfl) (fun _ _ _ _ h => (kp _ _ _ h).elim) rfl ?_; simp only [List.set_cons_zero, List.set_cons_succ, Int.toNat_natCast, Nat.reduceAdd, Nat.reduceMul, Int.reduceToNat, List.getElem_toArray, List.getElem_cons_zero, List.getElem_cons_succ, cells_agg, cells_int, cells_bool, cells_slice, cells_ptr, e1])
        |
          first
            | (refine' DA_take (i := 12) rfl (by kernel_rfl) (fun _ _ _ _ h => (kp _ _ _ h).elim) rfl (QV_eql_y (Ev.tmp rfl) (Ev.tmp rfl) ?hb) ?_; case hb => omega)
            | (refine' DA_take (i := 12) rfl (by kernel_rfl) (fun _ _ _ _ h => (kp _ _ _ h).elim) rfl (QV_eql_n (Ev.tmp rfl) (Ev.tmp rfl) ?hb) ?_; case hb => omega)
            | (refine' DA_take (i := 12) rfl (by kernel_rfl) (fun _ _ _ _ h => (kp _ _ _ h).elim) rfl (QV_eql (Ev.tmp rfl) (Ev.tmp rfl)) ?_)
          simp only [List.set_cons_zero, List.set_cons_succ, Int.toNat_natCast, Nat.reduceAdd, Nat.reduceMul, Int.reduceToNat, List.getElem_toArray, List.getElem_cons_zero, List.getElem_cons_succ, cells_agg, cells_int, cells_bool, cells_slice, cells_ptr, e1]
      refine' DA_take (i := 13) rfl (by kernel_rfl) (fun _ _ _ _ h => (kp _ _ _ h).elim) rfl (QV_pick (Ev.tmp rfl) (Ev.tmp rfl) Ev.const) ?_
      simp only [if_true, if_false, Bool.false_eq_true, reduceIte, List.set_cons_zero, List.set_cons_succ, Int.toNat_natCast, Nat.reduceAdd, Nat.reduceMul, Int.reduceToNat, List.getElem_toArray, List.getElem_cons_zero, List.getElem_cons_succ, cells_agg, cells_int, cells_bool, cells_slice, cells_ptr, e1]
      refine DA_done (by kernel_rfl) ?_
      try simp only [List.nil_append, List.cons_append]
      refine hN5 _ _ ?_
      try clear hN5 N5
      refine HC_no rfl rfl ?_
      refine HC_skip ?_
      refine hN4 _ _ ?_
      try clear hN4 N4
      refine HC_seq fun N8 hN8 => ?_
      refine HC_region ?_
      first
        | (refine' HL_q rfl rfl (QV_loadA (Ev.tmp rfl) Try.isAgg36 Try.sizeOf36 ?hm ?hv ?hn) ?_; (case hm => (repeat (first | exact List.Mem.head _ | assumption | exact List.mem_of_getElem? (by assumption) | exact mem_set_self (by assumption) | apply List.Mem.tail))); (case hv => (simp only [List.toList_toArray, List.take_succ_cons, List.take_zero, List.drop_succ_cons, List.drop_zero, List.take_nil]; rfl)); (case hn => rfl))
        | (refine' HL_q rfl rfl (QV_loadRA (Ev.tmp rfl) ?hp Try.isAgg36 Try.sizeOf36 ?hs ?hv ?hn) ?_; (case hs => (first | assumption | (refine' Sl.sub (by assumption) ?_; (repeat (first | with_reducible exact List.Sublist.refl _ | with_reducible apply List.Sublist.cons_cons | with_reducible apply List.Sublist.cons))))); (case hv => (first  | rfl)); (case hp => (first | rfl | omega)); (case hn => rfl))
      simp only [List.set_cons_zero, List.set_cons_succ, Int.toNat_natCast, Nat.reduceAdd, Nat.reduceMul, Int.reduceToNat, List.getElem_toArray, List.getElem_cons_zero, List.getElem_cons_succ, cells_agg, cells_int, cells_bool, cells_slice, cells_ptr, e1]
      refine' HL_s rfl rfl (SO_store (Ev.tmp rfl) (Ev.tmp rfl) Try.sizeOf36 ?hvs ?hn ?h1 ?hm ?hfit) ?_
      case hvs => rfl
      case hn => rfl
      case h1 => rfl
      case hm => (repeat (first | with_reducible exact Upd.head | exact Upd.at_ (by assumption) | exact Upd.set (by assumption) | apply Upd.tail))
      case hfit => simp
      rintro _ _ ⟨rfl, rfl⟩
      simp only [spl, List.set_cons_zero, List.set_cons_succ, List.toList_toArray, List.take_succ_cons, List.take_zero, List.drop_succ_cons, List.drop_zero, List.nil_append, List.cons_append, List.append_nil, List.length_cons, List.length_nil, Nat.zero_add, Nat.reduceAdd, List.take_nil, List.drop_nil]
      refine' HL_q rfl rfl (QV_assign Ev.const) ?_
      simp only [List.set_cons_zero, List.set_cons_succ, Int.toNat_natCast, Nat.reduceAdd, Nat.reduceMul, Int.reduceToNat, List.getElem_toArray, List.getElem_cons_zero, List.getElem_cons_succ, cells_agg, cells_int, cells_bool, cells_slice, cells_ptr, e1]
      refine HL_nil ?_
      refine hN8 _ _ ?_
      try clear hN8 N8
      refine HC_ret ?_
      try simp only [thenK, blockK]
      refine kr _ _ ?_
      refine' Lv_cell_tmp rfl rfl Try.isAgg36 Try.sizeOf36 ?hm ?hn rfl ?post ?le
      case hm => (repeat (first | exact List.Mem.head _ | assumption | exact List.mem_of_getElem? (by assumption) | exact mem_set_self (by assumption) | apply List.Mem.tail))
      case hn => rfl
      case post => exact ⟨_, rfl, rfl⟩
      case le => (first | with_reducible exact Le.refl | (refine Le.of ?_; (repeat (first | with_reducible exact Sp.refl | with_reducible exact Sp.nil | (apply Sp.pick; focus ((repeat (first | with_reducible exact Rm.head | with_reducible apply Rm.tail)); done)) | with_reducible refine Sp.drop ?_))))
    · simp only [Bool.true_and] at kr
      by_cases h : t = n
      · subst h
        simp only [beq_self_eq_true, Bool.true_and] at kr
        refine HC_seq fun N4 hN4 => ?_
        refine HC_seq fun N5 hN5 => ?_
        refine HC_draw 14 [] _ mixed rfl ?_
        refine' DA_take (i := 0) rfl (by kernel_rfl) (fun _ _ _ _ h => (kp _ _ _ h).elim) rfl (QV_move (Ev.tmp rfl)) ?_
        simp only [List.set_cons_zero, List.set_cons_succ, Int.toNat_natCast, Nat.reduceAdd, Nat.reduceMul, Int.reduceToNat, List.getElem_toArray, List.getElem_cons_zero, List.getElem_cons_succ, cells_agg, cells_int, cells_bool, cells_slice, cells_ptr, e1]
        refine' DA_take (i := 1) rfl (by kernel_rfl) (fun _ _ _ _ h => (kp _ _ _ h).elim) rfl (QV_nil (Ev.tmp rfl)) ?_
        simp only [List.set_cons_zero, List.set_cons_succ, Int.toNat_natCast, Nat.reduceAdd, Nat.reduceMul, Int.reduceToNat, List.getElem_toArray, List.getElem_cons_zero, List.getElem_cons_succ, cells_agg, cells_int, cells_bool, cells_slice, cells_ptr, e1]
        refine' DA_take (i := 2) rfl (by kernel_rfl) (fun _ _ _ _ h => (kp _ _ _ h).elim) rfl (QV_field (Ev.tmp rfl) (fld105_7 _ _)) ?_
        simp only [List.set_cons_zero, List.set_cons_succ, Int.toNat_natCast, Nat.reduceAdd, Nat.reduceMul, Int.reduceToNat, List.getElem_toArray, List.getElem_cons_zero, List.getElem_cons_succ, cells_agg, cells_int, cells_bool, cells_slice, cells_ptr, e1]
        first
          | (refine' DA_take (i := 3) rfl (by kernel_rfl) (fun _ _ _ _ h => (kp _ _ _ h).elim) rfl (QV_load1 (Ev.tmp rfl) Try.isAgg4 ?hm ?hv) ?_; (case hm => (repeat (first | exact List.Mem.head _ | assumption | exact List.mem_of_getElem? (by assumption) | exact mem_set_self (by assumption) | apply List.Mem.tail))); (case hv => (first | rfl | assumption)))
          | (refine' DA_take (i := 3) rfl (by kernel_rfl) (fun _ _ _ _ h => (kp _ _ _ h).elim) rfl (QV_loadR (Ev.tmp rfl) ?hp Try.isAgg4 ?hs ?hv) ?_; (case hs => (first | assumption | (refine' Sl.sub (by assumption) ?_; (repeat (first | with_reducible exact List.Sublist.refl _ | with_reducible apply List.Sublist.cons_cons | with_reducible apply List.Sublist.cons))))); (case hv => (first  | rfl | assumption)); (case hp => (first | rfl | omega)))
        simp only [List.set_cons_zero, List.set_cons_succ, Int.toNat_natCast, Nat.reduceAdd, Nat.reduceMul, Int.reduceToNat, List.getElem_toArray, List.getElem_cons_zero, List.getElem_cons_succ, cells_agg, cells_int, cells_bool, cells_slice, cells_ptr, e1]
        refine' DA_take (i := 4) rfl (by kernel_rfl) (fun _ _ _ _ h => (kp _ _ _ h).elim) rfl (QV_move (Ev.tmp rfl)) ?_
        simp only [List.set_cons_zero, List.set_cons_succ, Int.toNat_natCast, Nat.reduceAdd, Nat.reduceMul, Int.reduceToNat, List.getElem_toArray, List.getElem_cons_zero, List.getElem_cons_succ, cells_agg, cells_int, cells_bool, cells_slice, cells_ptr, e1]
        first
          | (refine' DA_skip (i := 5) rfl (by kernel_rfl) (fun _ _ _ _ h => (kp _ _ _ h).elim) rfl ?_; simp only [List.set_cons_zero, List.set_cons_succ, Int.toNat_natCast, Nat.reduceAdd, Nat.reduceMul, Int.reduceToNat, List.getElem_toArray, List.getElem_cons_zero, List.getElem_cons_succ, cells_agg, cells_int, cells_bool, cells_slice, cells_ptr, e1])
          |
            refine' DA_take (i := 5) rfl (by kernel_rfl) (fun _ _ _ _ h => (kp _ _ _ h).elim) rfl (QV_field (Ev.tmp rfl) (fld107_1 _ _)) ?_
            simp only [List.set_cons_zero, List.set_cons_succ, Int.toNat_natCast, Nat.reduceAdd, Nat.reduceMul, Int.reduceToNat, List.getElem_toArray, List.getElem_cons_zero, List.getElem_cons_succ, cells_agg, cells_int, cells_bool, cells_slice, cells_ptr, e1]
        first
          | (refine' DA_skip (i := 6) rfl (by kernel_rfl) (fun _ _ _ _ h => (kp _ _ _ h).elim) rfl ?_; simp only [List.set_cons_zero, List.set_cons_succ, Int.toNat_natCast, Nat.reduceAdd, Nat.reduceMul, Int.reduceToNat, List.getElem_toArray, List.getElem_cons_zero, List.getElem_cons_succ, cells_agg, cells_int, cells_bool, cells_slice, cells_ptr, e1])
          |
            first
              | (refine' DA_take (i := 6) rfl (by kernel_rfl) (fun _ _ _ _ h => (kp _ _ _ h).elim) rfl (QV_load1 (Ev.tmp rfl) Try.isAgg3 ?hm ?hv) ?_; (case hm => (repeat (first | exact List.Mem.head _ | assumption | exact List.mem_of_getElem? (by assumption) | exact mem_set_self (by assumption) | apply List.Mem.tail))); (case hv => (first | rfl | assumption)))
              | (refine' DA_take (i := 6) rfl (by kernel_rfl) (fun _ _ _ _ h => (kp _ _ _ h).elim) rfl (QV_loadR (Ev.tmp rfl) ?hp Try.isAgg3 ?hs ?hv) ?_; (case hs => (first | assumption | (refine' Sl.sub (by assumption) ?_; (repeat (first | with_reducible exact List.Sublist.refl _ | with_reducible apply List.Sublist.cons_cons | with_reducible apply List.Sublist.cons))))); (case hv => (first  | rfl | assumption)); (case hp => (first | rfl | omega)))
            simp only [List.set_cons_zero, List.set_cons_succ, Int.toNat_natCast, Nat.reduceAdd, Nat.reduceMul, Int.reduceToNat, List.getElem_toArray, List.getElem_cons_zero, List.getElem_cons_succ, cells_agg, cells_int, cells_bool, cells_slice, cells_ptr, e1]
        first
          | (refine' DA_skip (i := 7) rfl (by kernel_rfl) (fun _ _ _ _ h => (kp _ _ _ h).elim) rfl ?_; simp only [List.set_cons_zero, List.set_cons_succ, Int.toNat_natCast, Nat.reduceAdd, Nat.reduceMul, Int.reduceToNat, List.getElem_toArray, List.getElem_cons_zero, List.getElem_cons_succ, cells_agg, cells_int, cells_bool, cells_slice, cells_ptr, e1])
          |
            refine' DA_take (i := 7) rfl (by kernel_rfl) (fun _ _ _ _ h => (kp _ _ _ h).elim) rfl (QV_move (Ev.tmp rfl)) ?_
            simp only [List.set_cons_zero, List.set_cons_succ, Int.toNat_natCast, Nat.reduceAdd, Nat.reduceMul, Int.reduceToNat, List.getElem_toArray, List.getElem_cons_zero, List.getElem_cons_succ, cells_agg, cells_int, cells_bool, cells_slice, cells_ptr, e1]
        first
          | (refine' DA_skip (i := 8) rfl (by kernel_rfl) (fun _ _ _ _ h => (kp _ _ _ h).elim) rfl ?_; simp only [List.set_cons_zero, List.set_cons_succ, Int.toNat_natCast, Nat.reduceAdd, Nat.reduceMul, Int.reduceToNat, List.getElem_toArray, List.getElem_cons_zero, List.getElem_cons_succ, cells_agg, cells_int, cells_bool, cells_slice, cells_ptr, e1])
          |
            refine' DA_take (i := 8) rfl (by kernel_rfl) (fun _ _ _ _ h => (kp _ _ _ h).elim) rfl (QV_nil (Ev.tmp rfl)) ?_
            simp only [List.set_cons_zero, List.set_cons_succ, Int.toNat_natCast, Nat.reduceAdd, Nat.reduceMul, Int.reduceToNat, List.getElem_toArray, List.getElem_cons_zero, List.getElem_cons_succ, cells_agg, cells_int, cells_bool, cells_slice, cells_ptr, e1]
        first
          | (refine' DA_skip (i := 9) rfl (by kernel_rfl) (fun _ _ _ _ h => (kp _ _ _ h).elim) rfl ?_; simp only [List.set_cons_zero, List.set_cons_succ, Int.toNat_natCast, Nat.reduceAdd, Nat.reduceMul, Int.reduceToNat, List.getElem_toArray, List.getElem_cons_zero, List.getElem_cons_succ, cells_agg, cells_int, cells_bool, cells_slice, cells_ptr, e1])
          |
            refine' DA_take (i := 9) rfl (by kernel_rfl) (fun _ _ _ _ h => (kp _ _ _ h).elim) rfl (QV_field (Ev.tmp rfl) (fld105_3 _ _)) ?_
            simp only [List.set_cons_zero, List.set_cons_succ, Int.toNat_natCast, Nat.reduceAdd, Nat.reduceMul, Int.reduceToNat, List.getElem_toArray, List.getElem_cons_zero, List.getElem_cons_succ, cells_agg, cells_int, cells_bool, cells_slice, cells_ptr, e1]
        first
          | (refine' DA_skip (i := 10) rfl (by kernel_rfl) (fun _ _ _ _ h => (kp _ _ _ h).elim) rfl ?_; simp only [List.set_cons_zero, List.set_cons_succ, Int.toNat_natCast, Nat.reduceAdd, Nat.reduceMul, Int.reduceToNat, List.getElem_toArray, List.getElem_cons_zero, List.getElem_cons_succ, cells_agg, cells_int, cells_bool, cells_slice, cells_ptr, e1])
          |
            first
              | (refine' DA_take (i := 10) rfl (by kernel_rfl) (fun _ _ _ _ h => (kp _ _ _ h).elim) rfl (QV_load1 (Ev.tmp rfl) Try.isAgg22 ?hm ?hv) ?_; (case hm => (repeat (first | exact List.Mem.head _ | assumption | exact List.mem_of_getElem? (by assumption) | exact mem_set_self (by assumption) | apply List.Mem.tail))); (case hv => (first | rfl | assumption)))
              | (refine' DA_take (i := 10) rfl (by kernel_rfl) (fun _ _ _ _ h => (kp _ _ _ h).elim) rfl (QV_loadR (Ev.tmp rfl) ?hp Try.isAgg22 ?hs ?hv) ?_; (case hs => (first | assumption | (refine' Sl.sub (by assumption) ?_; (repeat (first | with_reducible exact List.Sublist.refl _ | with_reducible apply List.Sublist.cons_cons | with_reducible apply List.Sublist.cons))))); (case hv => (first  | rfl | assumption)); (case hp => (first | rfl | omega)))
            simp only [List.set_cons_zero, List.set_cons_succ, Int.toNat_natCast, Nat.reduceAdd, Nat.reduceMul, Int.reduceToNat, List.getElem_toArray, List.getElem_cons_zero, List.getElem_cons_succ, cells_agg, cells_int, cells_bool, cells_slice, cells_ptr, e1]
        first
          | (refine' DA_skip (i := 11) rfl (by kernel_rfl) (fun _ _ _ _ h => (kp _ _ _ h).elim) rfl ?_; simp only [List.set_cons_zero, List.set_cons_succ, Int.toNat_natCast, Nat.reduceAdd, Nat.reduceMul, Int.reduceToNat, List.getElem_toArray, List.getElem_cons_zero, List.getElem_cons_succ, cells_agg, cells_int, cells_bool, cells_slice, cells_ptr, e1])
          |
            refine' DA_take (i := 11) rfl (by kernel_rfl) (fun _ _ _ _ h => (kp _ _ _ h).elim) rfl (QV_len (Ev.tmp rfl) Try.underlying22) ?_
            simp only [List.set_cons_zero, List.set_cons_succ, Int.toNat_natCast, Nat.reduceAdd, Nat.reduceMul, Int.reduceToNat, List.getElem_toArray, List.getElem_cons_zero, List.getElem_cons_succ, cells_agg, cells_int, cells_bool, cells_slice, cells_ptr, e1]
        first
          | (refine' DA_skip (i := 12) rfl (by kernel_rfl) (fun _ _ _ _ h => (kp _ _ _ h).elim) rfl ?_; simp only [List.set_cons_zero, List.set_cons_succ, Int.toNat_natCast, Nat.reduceAdd, Nat.reduceMul, Int.reduceToNat, List.getElem_toArray, List.getElem_cons_zero, List.getElem_cons_succ, cells_agg, cells_int, cells_bool, cells_slice, cells_ptr, e1])
          |
            first
              | (refine' DA_take (i := 12) rfl (by kernel_rfl) (fun _ _ _ _ h => (kp _ _ _ h).elim) rfl (QV_eql_y (Ev.tmp rfl) (Ev.tmp rfl) ?hb) ?_; case hb => omega)
              | (refine' DA_take (i := 12) rfl (by kernel_rfl) (fun _ _ _ _ h => (kp _ _ _ h).elim) rfl (QV_eql_n (Ev.tmp rfl) (Ev.tmp rfl) ?hb) ?_; case hb => omega)
              | (refine' DA_take (i := 12) rfl (by kernel_rfl) (fun _ _ _ _ h => (kp _ _ _ h).elim) rfl (QV_eql (Ev.tmp rfl) (Ev.tmp rfl)) ?_)
            simp only [List.set_cons_zero, List.set_cons_succ, Int.toNat_natCast, Nat.reduceAdd, Nat.reduceMul, Int.reduceToNat, List.getElem_toArray, List.getElem_cons_zero, List.getElem_cons_succ, cells_agg, cells_int, cells_bool, cells_slice, cells_ptr, e1]
        refine' DA_take (i := 13) rfl (by kernel_rfl) (fun _ _ _ _ h => (kp _ _ _ h).elim) rfl (QV_pick (Ev.tmp rfl) (Ev.tmp rfl) Ev.const) ?_
        simp only [if_true, if_false, Bool.false_eq_true, reduceIte, List.set_cons_zero, List.set_cons_succ, Int.toNat_natCast, Nat.reduceAdd, Nat.reduceMul, Int.reduceToNat, List.getElem_toArray, List.getElem_cons_zero, List.getElem_cons_succ, cells_agg, cells_int, cells_bool, cells_slice, cells_ptr, e1]
        refine DA_done (by kernel_rfl) ?_
        try simp only [List.nil_append, List.cons_append]
        refine hN5 _ _ ?_
        try clear hN5 N5
        refine HC_true rfl ?_
        refine HC_seq fun N6 hN6 => ?_
        refine HC_region ?_
        refine' HL_q rfl rfl (QV_field (Ev.tmp rfl) (fld36_5 _ _)) ?_
        simp only [List.set_cons_zero, List.set_cons_succ, Int.toNat_natCast, Nat.reduceAdd, Nat.reduceMul, Int.reduceToNat, List.getElem_toArray, List.getElem_cons_zero, List.getElem_cons_succ, cells_agg, cells_int, cells_bool, cells_slice, cells_ptr, e1]
        refine' HL_s rfl rfl (SO_store (Ev.tmp rfl) Ev.const Try.sizeOf4 ?hvs ?hn ?h1 ?hm ?hfit) ?_
        case hvs => rfl
        case hn => rfl
        case h1 => rfl
        case hm => (repeat (first | with_reducible exact Upd.head | exact Upd.at_ (by assumption) | exact Upd.set (by assumption) | apply Upd.tail))
        case hfit => simp
        rintro _ _ ⟨rfl, rfl⟩
        simp only [spl, List.set_cons_zero, List.set_cons_succ, List.toList_toArray, List.take_succ_cons, List.take_zero, List.drop_succ_cons, List.drop_zero, List.nil_append, List.cons_append, List.append_nil, List.length_cons, List.length_nil, Nat.zero_add, Nat.reduceAdd, List.take_nil, List.drop_nil]
        refine HL_nil ?_
        refine hN6 _ _ ?_
        try clear hN6 N6
        refine HC_seq fun N7 hN7 => ?_
        refine HC_region ?_
        refine' HL_q rfl rfl (QV_move (Ev.tmp rfl)) ?_
        simp only [List.set_cons_zero, List.set_cons_succ, Int.toNat_natCast, Nat.reduceAdd, Nat.reduceMul, Int.reduceToNat, List.getElem_toArray, List.getElem_cons_zero, List.getElem_cons_succ, cells_agg, cells_int, cells_bool, cells_slice, cells_ptr, e1]
        refine' HL_q rfl rfl (QV_nil (Ev.tmp rfl)) ?_
        simp only [List.set_cons_zero, List.set_cons_succ, Int.toNat_natCast, Nat.reduceAdd, Nat.reduceMul, Int.reduceToNat, List.getElem_toArray, List.getElem_cons_zero, List.getElem_cons_succ, cells_agg, cells_int, cells_bool, cells_slice, cells_ptr, e1]
        refine' HL_q rfl rfl (QV_field (Ev.tmp rfl) (fld105_8 _ _)) ?_
        simp only [List.set_cons_zero, List.set_cons_succ, Int.toNat_natCast, Nat.reduceAdd, Nat.reduceMul, Int.reduceToNat, List.getElem_toArray, List.getElem_cons_zero, List.getElem_cons_succ, cells_agg, cells_int, cells_bool, cells_slice, cells_ptr, e1]
        first
          | (refine' HL_q rfl rfl (QV_load1 (Ev.tmp rfl) Try.isAgg3 ?hm ?hv) ?_; (case hm => (repeat (first | exact List.Mem.head _ | assumption | exact List.mem_of_getElem? (by assumption) | exact mem_set_self (by assumption) | apply List.Mem.tail))); (case hv => (first | rfl | assumption)))
          | (refine' HL_q rfl rfl (QV_loadR (Ev.tmp rfl) ?hp Try.isAgg3 ?hs ?hv) ?_; (case hs => (first | assumption | (refine' Sl.sub (by assumption) ?_; (repeat (first | with_reducible exact List.Sublist.refl _ | with_reducible apply List.Sublist.cons_cons | with_reducible apply List.Sublist.cons))))); (case hv => (first  | rfl | assumption)); (case hp => (first | rfl | omega)))
        simp only [List.set_cons_zero, List.set_cons_succ, Int.toNat_natCast, Nat.reduceAdd, Nat.reduceMul, Int.reduceToNat, List.getElem_toArray, List.getElem_cons_zero, List.getElem_cons_succ, cells_agg, cells_int, cells_bool, cells_slice, cells_ptr, e1]
        first
          | (refine' HL_q rfl rfl (QV_neq_y (Ev.tmp rfl) Ev.const ?hb) ?_; case hb => omega)
          | (refine' HL_q rfl rfl (QV_neq_n (Ev.tmp rfl) Ev.const ?hb) ?_; case hb => omega)
          | (refine' HL_q rfl rfl (QV_neq (Ev.tmp rfl) Ev.const) ?_)
        simp only [List.set_cons_zero, List.set_cons_succ, Int.toNat_natCast, Nat.reduceAdd, Nat.reduceMul, Int.reduceToNat, List.getElem_toArray, List.getElem_cons_zero, List.getElem_cons_succ, cells_agg, cells_int, cells_bool, cells_slice, cells_ptr, e1]
        refine HL_nil ?_
        refine hN7 _ _ ?_
        try clear hN7 N7
        refine HC_cond rfl (fun h5 => ?_) (fun h5 => ?_)
        · skip
          refine HC_region ?_
          refine' HL_q rfl rfl (QV_move (Ev.tmp rfl)) ?_
          simp only [List.set_cons_zero, List.set_cons_succ, Int.toNat_natCast, Nat.reduceAdd, Nat.reduceMul, Int.reduceToNat, List.getElem_toArray, List.getElem_cons_zero, List.getElem_cons_succ, cells_agg, cells_int, cells_bool, cells_slice, cells_ptr, e1]
          refine' HL_q rfl rfl (QV_nil (Ev.tmp rfl)) ?_
          simp only [List.set_cons_zero, List.set_cons_succ, Int.toNat_natCast, Nat.reduceAdd, Nat.reduceMul, Int.reduceToNat, List.getElem_toArray, List.getElem_cons_zero, List.getElem_cons_succ, cells_agg, cells_int, cells_bool, cells_slice, cells_ptr, e1]
          refine' HL_q rfl rfl (QV_field (Ev.tmp rfl) (fld105_8 _ _)) ?_
          simp only [List.set_cons_zero, List.set_cons_succ, Int.toNat_natCast, Nat.reduceAdd, Nat.reduceMul, Int.reduceToNat, List.getElem_toArray, List.getElem_cons_zero, List.getElem_cons_succ, cells_agg, cells_int, cells_bool, cells_slice, cells_ptr, e1]
          refine' HL_s rfl rfl (SO_store (Ev.tmp rfl) Ev.const Try.sizeOf3 ?hvs ?hn ?h1 ?hm ?hfit) ?_
          case hvs => rfl
          case hn => rfl
          case h1 => rfl
          case hm => (repeat (first | with_reducible exact Upd.head | exact Upd.at_ (by assumption) | exact Upd.set (by assumption) | apply Upd.tail))
          case hfit => simp
          rintro _ _ ⟨rfl, rfl⟩
          simp only [spl, List.set_cons_zero, List.set_cons_succ, List.toList_toArray, List.take_succ_cons, List.take_zero, List.drop_succ_cons, List.drop_zero, List.nil_append, List.cons_append, List.append_nil, List.length_cons, List.length_nil, Nat.zero_add, Nat.reduceAdd, List.take_nil, List.drop_nil]
          refine HL_nil ?_
          refine hN4 _ _ ?_
          try clear hN4 N4
          have h5' : (fin != 3) = true := h5
          simp only [h5', if_true] at kr
          refine HC_seq fun N8 hN8 => ?_
          refine HC_region ?_
          first
            | (refine' HL_q rfl rfl (QV_loadA (Ev.tmp rfl) Try.isAgg36 Try.sizeOf36 ?hm ?hv ?hn) ?_; (case hm => (repeat (first | exact List.Mem.head _ | assumption | exact List.mem_of_getElem? (by assumption) | exact mem_set_self (by assumption) | apply List.Mem.tail))); (case hv => (simp only [List.toList_toArray, List.take_succ_cons, List.take_zero, List.drop_succ_cons, List.drop_zero, List.take_nil]; rfl)); (case hn => rfl))
            | (refine' HL_q rfl rfl (QV_loadRA (Ev.tmp rfl) ?hp Try.isAgg36 Try.sizeOf36 ?hs ?hv ?hn) ?_; (case hs => (first | assumption | (refine' Sl.sub (by assumption) ?_; (repeat (first | with_reducible exact List.Sublist.refl _ | with_reducible apply List.Sublist.cons_cons | with_reducible apply List.Sublist.cons))))); (case hv => (first  | rfl)); (case hp => (first | rfl | omega)); (case hn => rfl))
          simp only [List.set_cons_zero, List.set_cons_succ, Int.toNat_natCast, Nat.reduceAdd, Nat.reduceMul, Int.reduceToNat, List.getElem_toArray, List.getElem_cons_zero, List.getElem_cons_succ, cells_agg, cells_int, cells_bool, cells_slice, cells_ptr, e1]
          refine' HL_s rfl rfl (SO_store (Ev.tmp rfl) (Ev.tmp rfl) Try.sizeOf36 ?hvs ?hn ?h1 ?hm ?hfit) ?_
          case hvs => rfl
          case hn => rfl
          case h1 => rfl
          case hm => (repeat (first | with_reducible exact Upd.head | exact Upd.at_ (by assumption) | exact Upd.set (by assumption) | apply Upd.tail))
          case hfit => simp
          rintro _ _ ⟨rfl, rfl⟩
          simp only [spl, List.set_cons_zero, List.set_cons_succ, List.toList_toArray, List.take_succ_cons, List.take_zero, List.drop_succ_cons, List.drop_zero, List.nil_append, List.cons_append, List.append_nil, List.length_cons, List.length_nil, Nat.zero_add, Nat.reduceAdd, List.take_nil, List.drop_nil]
          refine' HL_q rfl rfl (QV_assign Ev.const) ?_
          simp only [List.set_cons_zero, List.set_cons_succ, Int.toNat_natCast, Nat.reduceAdd, Nat.reduceMul, Int.reduceToNat, List.getElem_toArray, List.getElem_cons_zero, List.getElem_cons_succ, cells_agg, cells_int, cells_bool, cells_slice, cells_ptr, e1]
          refine HL_nil ?_
          refine hN8 _ _ ?_
          try clear hN8 N8
          refine HC_ret ?_
          try simp only [thenK, blockK]
          refine kr _ _ ?_
          refine' Lv_cell_tmp rfl rfl Try.isAgg36 Try.sizeOf36 ?hm ?hn rfl ?post ?le
          case hm => (repeat (first | exact List.Mem.head _ | assumption | exact List.mem_of_getElem? (by assumption) | exact mem_set_self (by assumption) | apply List.Mem.tail))
          case hn => rfl
          case post => exact ⟨_, rfl, rfl⟩
          case le => (first | with_reducible exact Le.refl | (refine Le.of ?_; (repeat (first | with_reducible exact Sp.refl | with_reducible exact Sp.nil | (apply Sp.pick; focus ((repeat (first | with_reducible exact Rm.head | with_reducible apply Rm.tail)); done)) | with_reducible refine Sp.drop ?_))))
        · refine HC_skip ?_
          refine hN4 _ _ ?_
          try clear hN4 N4
          have h5' : (fin != 3) = false := h5
          simp only [h5', Bool.false_eq_true, if_false] at kr
          refine HC_seq fun N8 hN8 => ?_
          refine HC_region ?_
          first
            | (refine' HL_q rfl rfl (QV_loadA (Ev.tmp rfl) Try.isAgg36 Try.sizeOf36 ?hm ?hv ?hn) ?_; (case hm => (repeat (first | exact List.Mem.head _ | assumption | exact List.mem_of_getElem? (by assumption) | exact mem_set_self (by assumption) | apply List.Mem.tail))); (case hv => (simp only [List.toList_toArray, List.take_succ_cons, List.take_zero, List.drop_succ_cons, List.drop_zero, List.take_nil]; rfl)); (case hn => rfl))
            | (refine' HL_q rfl rfl (QV_loadRA (Ev.tmp rfl) ?hp Try.isAgg36 Try.sizeOf36 ?hs ?hv ?hn) ?_; (case hs => (first | assumption | (refine' Sl.sub (by assumption) ?_; (repeat (first | with_reducible exact List.Sublist.refl _ | with_reducible apply List.Sublist.cons_cons | with_reducible apply List.Sublist.cons))))); (case hv => (first  | rfl)); (case hp => (first | rfl | omega)); (case hn => rfl))
          simp only [List.set_cons_zero, List.set_cons_succ, Int.toNat_natCast, Nat.reduceAdd, Nat.reduceMul, Int.reduceToNat, List.getElem_toArray, List.getElem_cons_zero, List.getElem_cons_succ, cells_agg, cells_int, cells_bool, cells_slice, cells_ptr, e1]
          refine' HL_s rfl rfl (SO_store (Ev.tmp rfl) (Ev.tmp rfl) Try.sizeOf36 ?hvs ?hn ?h1 ?hm ?hfit) ?_
          case hvs => rfl
          case hn => rfl
          case h1 => rfl
          case hm => (repeat (first | with_reducible exact Upd.head | exact Upd.at_ (by assumption) | exact Upd.set (by assumption) | apply Upd.tail))
          case hfit => simp
          rintro _ _ ⟨rfl, rfl⟩
          simp only [spl, List.set_cons_zero, List.set_cons_succ, List.toList_toArray, List.take_succ_cons, List.take_zero, List.drop_succ_cons, List.drop_zero, List.nil_append, List.cons_append, List.append_nil, List.length_cons, List.length_nil, Nat.zero_add, Nat.reduceAdd, List.take_nil, List.drop_nil]
          refine' HL_q rfl rfl (QV_assign Ev.const) ?_
          simp only [List.set_cons_zero, List.set_cons_succ, Int.toNat_natCast, Nat.reduceAdd, Nat.reduceMul, Int.reduceToNat, List.getElem_toArray, List.getElem_cons_zero, List.getElem_cons_succ, cells_agg, cells_int, cells_bool, cells_slice, cells_ptr, e1]
          refine HL_nil ?_
          refine hN8 _ _ ?_
          try clear hN8 N8
          refine HC_ret ?_
          try simp only [thenK, blockK]
          refine kr _ _ ?_
          refine' Lv_cell_tmp rfl rfl Try.isAgg36 Try.sizeOf36 ?hm ?hn rfl ?post ?le
          case hm => (repeat (first | exact List.Mem.head _ | assumption | exact List.mem_of_getElem? (by assumption) | exact mem_set_self (by assumption) | apply List.Mem.tail))
          case hn => rfl
          case post => exact ⟨_, rfl, rfl⟩
          case le => (first | with_reducible exact Le.refl | (refine Le.of ?_; (repeat (first | with_reducible exact Sp.refl | with_reducible exact Sp.nil | (apply Sp.pick; focus ((repeat (first | with_reducible exact Rm.head | with_reducible apply Rm.tail)); done)) | with_reducible refine Sp.drop ?_))))
      · have h' : (t == n) = false := by simpa using h
        simp only [h', Bool.false_and, Bool.false_eq_true, if_false] at kr
        refine HC_seq fun N4 hN4 => ?_
        refine HC_seq fun N5 hN5 => ?_
        refine HC_draw 14 [] _ mixed rfl ?_
        refine' DA_take (i := 0) rfl (by kernel_rfl) (fun _ _ _ _ h => (kp _ _ _ h).elim) rfl (QV_move (Ev.tmp rfl)) ?_
        simp only [List.set_cons_zero, List.set_cons_succ, Int.toNat_natCast, Nat.reduceAdd, Nat.reduceMul, Int.reduceToNat, List.getElem_toArray, List.getElem_cons_zero, List.getElem_cons_succ, cells_agg, cells_int, cells_bool, cells_slice, cells_ptr, e1]
        refine' DA_take (i := 1) rfl (by kernel_rfl) (fun _ _ _ _ h => (kp _ _ _ h).elim) rfl (QV_nil (Ev.tmp rfl)) ?_
        simp only [List.set_cons_zero, List.set_cons_succ, Int.toNat_natCast, Nat.reduceAdd, Nat.reduceMul, Int.reduceToNat, List.getElem_toArray, List.getElem_cons_zero, List.getElem_cons_succ, cells_agg, cells_int, cells_bool, cells_slice, cells_ptr, e1]
        refine' DA_take (i := 2) rfl (by kernel_rfl) (fun _ _ _ _ h => (kp _ _ _ h).elim) rfl (QV_field (Ev.tmp rfl) (fld105_7 _ _)) ?_
        simp only [List.set_cons_zero, List.set_cons_succ, Int.toNat_natCast, Nat.reduceAdd, Nat.reduceMul, Int.reduceToNat, List.getElem_toArray, List.getElem_cons_zero, List.getElem_cons_succ, cells_agg, cells_int, cells_bool, cells_slice, cells_ptr, e1]
        first
          | (refine' DA_take (i := 3) rfl (by kernel_rfl) (fun _ _ _ _ h => (kp _ _ _ h).elim) rfl (QV_load1 (Ev.tmp rfl) Try.isAgg4 ?hm ?hv) ?_; (case hm => (repeat (first | exact List.Mem.head _ | assumption | exact List.mem_of_getElem? (by assumption) | exact mem_set_self (by assumption) | apply List.Mem.tail))); (case hv => (first | rfl | assumption)))
          | (refine' DA_take (i := 3) rfl (by kernel_rfl) (fun _ _ _ _ h => (kp _ _ _ h).elim) rfl (QV_loadR (Ev.tmp rfl) ?hp Try.isAgg4 ?hs ?hv) ?_; (case hs => (first | assumption | (refine' Sl.sub (by assumption) ?_; (repeat (first | with_reducible exact List.Sublist.refl _ | with_reducible apply List.Sublist.cons_cons | with_reducible apply List.Sublist.cons))))); (case hv => (first  | rfl | assumption)); (case hp => (first | rfl | omega)))
        simp only [List.set_cons_zero, List.set_cons_succ, Int.toNat_natCast, Nat.reduceAdd, Nat.reduceMul, Int.reduceToNat, List.getElem_toArray, List.getElem_cons_zero, List.getElem_cons_succ, cells_agg, cells_int, cells_bool, cells_slice, cells_ptr, e1]
        refine' DA_take (i := 4) rfl (by kernel_rfl) (fun _ _ _ _ h => (kp _ _ _ h).elim) rfl (QV_move (Ev.tmp rfl)) ?_
        simp only [List.set_cons_zero, List.set_cons_succ, Int.toNat_natCast, Nat.reduceAdd, Nat.reduceMul, Int.reduceToNat, List.getElem_toArray, List.getElem_cons_zero, List.getElem_cons_succ, cells_agg, cells_int, cells_bool, cells_slice, cells_ptr, e1]
        first
          | (refine' DA_skip (i := 5) rfl (by kernel_rfl) (fun _ _ _ _ h => (kp _ _ _ h).elim) rfl ?_; simp only [List.set_cons_zero, List.set_cons_succ, Int.toNat_natCast, Nat.reduceAdd, Nat.reduceMul, Int.reduceToNat, List.getElem_toArray, List.getElem_cons_zero, List.getElem_cons_succ, cells_agg, cells_int, cells_bool, cells_slice, cells_ptr, e1])
          |
            refine' DA_take (i := 5) rfl (by kernel_rfl) (fun _ _ _ _ h => (kp _ _ _ h).elim) rfl (QV_field (Ev.tmp rfl) (fld107_1 _ _)) ?_
            simp only [List.set_cons_zero, List.set_cons_succ, Int.toNat_natCast, Nat.reduceAdd, Nat.reduceMul, Int.reduceToNat, List.getElem_toArray, List.getElem_cons_zero, List.getElem_cons_succ, cells_agg, cells_int, cells_bool, cells_slice, cells_ptr, e1]
        first
          | (refine' DA_skip (i := 6) rfl (by kernel_rfl) (fun _ _ _ _ h => (kp _ _ _ h).elim) rfl ?_; simp only [List.set_cons_zero, List.set_cons_succ, Int.toNat_natCast, Nat.reduceAdd, Nat.reduceMul, Int.reduceToNat, List.getElem_toArray, List.getElem_cons_zero, List.getElem_cons_succ, cells_agg, cells_int, cells_bool, cells_slice, cells_ptr, e1])
          |
            first
              | (refine' DA_take (i := 6) rfl (by kernel_rfl) (fun _ _ _ _ h => (kp _ _ _ h).elim) rfl (QV_load1 (Ev.tmp rfl) Try.isAgg3 ?hm ?hv) ?_; (case hm => (repeat (first | exact List.Mem.head _ | assumption | exact List.mem_of_getElem? (by assumption) | exact mem_set_self (by assumption) | apply List.Mem.tail))); (case hv => (first | rfl | assumption)))
              | (refine' DA_take (i := 6) rfl (by kernel_rfl) (fun _ _ _ _ h => (kp _ _ _ h).elim) rfl (QV_loadR (Ev.tmp rfl) ?hp Try.isAgg3 ?hs ?hv) ?_; (case hs => (first | assumption | (refine' Sl.sub (by assumption) ?_; (repeat (first | with_reducible exact List.Sublist.refl _ | with_reducible apply List.Sublist.cons_cons | with_reducible apply List.Sublist.cons))))); (case hv => (first  | rfl | assumption)); (case hp => (first | rfl | omega)))
            simp only [List.set_cons_zero, List.set_cons_succ, Int.toNat_natCast, Nat.reduceAdd, Nat.reduceMul, Int.reduceToNat, List.getElem_toArray, List.getElem_cons_zero, List.getElem_cons_succ, cells_agg, cells_int, cells_bool, cells_slice, cells_ptr, e1]
        first
          | (refine' DA_skip (i := 7) rfl (by kernel_rfl) (fun _ _ _ _ h => (kp _ _ _ h).elim) rfl ?_; simp only [List.set_cons_zero, List.set_cons_succ, Int.toNat_natCast, Nat.reduceAdd, Nat.reduceMul, Int.reduceToNat, List.getElem_toArray, List.getElem_cons_zero, List.getElem_cons_succ, cells_agg, cells_int, cells_bool, cells_slice, cells_ptr, e1])
          |
            refine' DA_take (i := 7) rfl (by kernel_rfl) (fun _ _ _ _ h => (kp _ _ _ h).elim) rfl (QV_move (Ev.tmp rfl)) ?_
            simp only [List.set_cons_zero, List.set_cons_succ, Int.toNat_natCast, Nat.reduceAdd, Nat.reduceMul, Int.reduceToNat, List.getElem_toArray, List.getElem_cons_zero, List.getElem_cons_succ, cells_agg, cells_int, cells_bool, cells_slice, cells_ptr, e1]
        first
          | (refine' DA_skip (i := 8) rfl (by kernel_rfl) (fun _ _ _ _ h => (kp _ _ _ h).elim) rfl ?_; simp only [List.set_cons_zero, List.set_cons_succ, Int.toNat_natCast, Nat.reduceAdd, Nat.reduceMul, Int.reduceToNat, List.getElem_toArray, List.getElem_cons_zero, List.getElem_cons_succ, cells_agg, cells_int, cells_bool, cells_slice, cells_ptr, e1])
          |
            refine' DA_take (i := 8) rfl (by kernel_rfl) (fun _ _ _ _ h => (kp _ _ _ h).elim) rfl (QV_nil (Ev.tmp rfl)) ?_
            simp only [List.set_cons_zero, List.set_cons_succ, Int.toNat_natCast, Nat.reduceAdd, Nat.reduceMul, Int.reduceToNat, List.getElem_toArray, List.getElem_cons_zero, List.getElem_cons_succ, cells_agg, cells_int, cells_bool, cells_slice, cells_ptr, e1]
        first
          | (refine' DA_skip (i := 9) rfl (by kernel_rfl) (fun _ _ _ _ h => (kp _ _ _ h).elim) rfl ?_; simp only [List.set_cons_zero, List.set_cons_succ, Int.toNat_natCast, Nat.reduceAdd, Nat.reduceMul, Int.reduceToNat, List.getElem_toArray, List.getElem_cons_zero, List.getElem_cons_succ, cells_agg, cells_int, cells_bool, cells_slice, cells_ptr, e1])
          |
            refine' DA_take (i := 9) rfl (by kernel_rfl) (fun _ _ _ _ h => (kp _ _ _ h).elim) rfl (QV_field (Ev.tmp rfl) (fld105_3 _ _)) ?_
            simp only [List.set_cons_zero, List.set_cons_succ, Int.toNat_natCast, Nat.reduceAdd, Nat.reduceMul, Int.reduceToNat, List.getElem_toArray, List.getElem_cons_zero, List.getElem_cons_succ, cells_agg, cells_int, cells_bool, cells_slice, cells_ptr, e1]
        first
          | (refine' DA_skip (i := 10) rfl (by kernel_rfl) (fun _ _ _ _ h => (kp _ _ _ h).elim) rfl ?_; simp only [List.set_cons_zero, List.set_cons_succ, Int.toNat_natCast, Nat.reduceAdd, Nat.reduceMul, Int.reduceToNat, List.getElem_toArray, List.getElem_cons_zero, List.getElem_cons_succ, cells_agg, cells_int, cells_bool, cells_slice, cells_ptr, e1])
          |
            first
              | (refine' DA_take (i := 10) rfl (by kernel_rfl) (fun _ _ _ _ h => (kp _ _ _ h).elim) rfl (QV_load1 (Ev.tmp rfl) Try.isAgg22 ?hm ?hv) ?_; (case hm => (repeat (first | exact List.Mem.head _ | assumption | exact List.mem_of_getElem? (by assumption) | exact mem_set_self (by assumption) | apply List.Mem.tail))); (case hv => (first | rfl | assumption)))
              | (refine' DA_take (i := 10) rfl (by kernel_rfl) (fun _ _ _ _ h => (kp _ _ _ h).elim) rfl (QV_loadR (Ev.tmp rfl) ?hp Try.isAgg22 ?hs ?hv) ?_; (case hs => (first | assumption | (refine' Sl.sub (by assumption) ?_; (repeat (first | with_reducible exact List.Sublist.refl _ | with_reducible apply List.Sublist.cons_cons | with_reducible apply List.Sublist.cons))))); (case hv => (first  | rfl | assumption)); (case hp => (first | rfl | omega)))
            simp only [List.set_cons_zero, List.set_cons_succ, Int.toNat_natCast, Nat.reduceAdd, Nat.reduceMul, Int.reduceToNat, List.getElem_toArray, List.getElem_cons_zero, List.getElem_cons_succ, cells_agg, cells_int, cells_bool, cells_slice, cells_ptr, e1]
        first
          | (refine' DA_skip (i := 11) rfl (by kernel_rfl) (fun _ _ _ _ h => (kp _ _ _ h).elim) rfl ?_; simp only [List.set_cons_zero, List.set_cons_succ, Int.toNat_natCast, Nat.reduceAdd, Nat.reduceMul, Int.reduceToNat, List.getElem_toArray, List.getElem_cons_zero, List.getElem_cons_succ, cells_agg, cells_int, cells_bool, cells_slice, cells_ptr, e1])
          |
            refine' DA_take (i := 11) rfl (by kernel_rfl) (fun _ _ _ _ h => (kp _ _ _ h).elim) rfl (QV_len (Ev.tmp rfl) Try.underlying22) ?_
            simp only [List.set_cons_zero, List.set_cons_succ, Int.toNat_natCast, Nat.reduceAdd, Nat.reduceMul, Int.reduceToNat, List.getElem_toArray, List.getElem_cons_zero, List.getElem_cons_succ, cells_agg, cells_int, cells_bool, cells_slice, cells_ptr, e1]
        first
          | (refine' DA_skip (i := 12) rfl (by kernel_rfl) (fun _ _ _ _ h => (kp _ _ _ h).elim) rfl ?_; simp only [List.set_cons_zero, List.set_cons_succ, Int.toNat_natCast, Nat.reduceAdd, Nat.reduceMul, Int.reduceToNat, List.getElem_toArray, List.getElem_cons_zero, List.getElem_cons_succ, cells_agg, cells_int, cells_bool, cells_slice, cells_ptr, e1])
          |
            first
              | (refine' DA_take (i := 12) rfl (by kernel_rfl) (fun _ _ _ _ h => (kp _ _ _ h).elim) rfl (QV_eql_y (Ev.tmp rfl) (Ev.tmp rfl) ?hb) ?_; case hb => omega)
              | (refine' DA_take (i := 12) rfl (by kernel_rfl) (fun _ _ _ _ h => (kp _ _ _ h).elim) rfl (QV_eql_n (Ev.tmp rfl) (Ev.tmp rfl) ?hb) ?_; case hb => omega)
              | (refine' DA_take (i := 12) rfl (by kernel_rfl) (fun _ _ _ _ h => (kp _ _ _ h).elim) rfl (QV_eql (Ev.tmp rfl) (Ev.tmp rfl)) ?_)
            simp only [List.set_cons_zero, List.set_cons_succ, Int.toNat_natCast, Nat.reduceAdd, Nat.reduceMul, Int.reduceToNat, List.getElem_toArray, List.getElem_cons_zero, List.getElem_cons_succ, cells_agg, cells_int, cells_bool, cells_slice, cells_ptr, e1]
        refine' DA_take (i := 13) rfl (by kernel_rfl) (fun _ _ _ _ h => (kp _ _ _ h).elim) rfl (QV_pick (Ev.tmp rfl) (Ev.tmp rfl) Ev.const) ?_
        simp only [if_true, if_false, Bool.false_eq_true, reduceIte, List.set_cons_zero, List.set_cons_succ, Int.toNat_natCast, Nat.reduceAdd, Nat.reduceMul, Int.reduceToNat, List.getElem_toArray, List.getElem_cons_zero, List.getElem_cons_succ, cells_agg, cells_int, cells_bool, cells_slice, cells_ptr, e1]
        refine DA_done (by kernel_rfl) ?_
        try simp only [List.nil_append, List.cons_append]
        refine hN5 _ _ ?_
        try clear hN5 N5
        refine HC_no rfl rfl ?_
        refine HC_skip ?_
        refine hN4 _ _ ?_
        try clear hN4 N4
        refine HC_seq fun N8 hN8 => ?_
        refine HC_region ?_
        first
          | (refine' HL_q rfl rfl (QV_loadA (Ev.tmp rfl) Try.isAgg36 Try.sizeOf36 ?hm ?hv ?hn) ?_; (case hm => (repeat (first | exact List.Mem.head _ | assumption | exact List.mem_of_getElem? (by assumption) | exact mem_set_self (by assumption) | apply List.Mem.tail))); (case hv => (simp only [List.toList_toArray, List.take_succ_cons, List.take_zero, List.drop_succ_cons, List.drop_zero, List.take_nil]; rfl)); (case hn => rfl))
          | (refine' HL_q rfl rfl (QV_loadRA (Ev.tmp rfl) ?hp Try.isAgg36 Try.sizeOf36 ?hs ?hv ?hn) ?_; (case hs => (first | assumption | (refine' Sl.sub (by assumption) ?_; (repeat (first | with_reducible exact List.Sublist.refl _ | with_reducible apply List.Sublist.cons_cons | with_reducible apply List.Sublist.cons))))); (case hv => (first  | rfl)); (case hp => (first | rfl | omega)); (case hn => rfl))
        simp only [List.set_cons_zero, List.set_cons_succ, Int.toNat_natCast, Nat.reduceAdd, Nat.reduceMul, Int.reduceToNat, List.getElem_toArray, List.getElem_cons_zero, List.getElem_cons_succ, cells_agg, cells_int, cells_bool, cells_slice, cells_ptr, e1]
        refine' HL_s rfl rfl (SO_store (Ev.tmp rfl) (Ev.tmp rfl) Try.sizeOf36 ?hvs ?hn ?h1 ?hm ?hfit) ?_
        case hvs => rfl
        case hn => rfl
        case h1 => rfl
        case hm => (repeat (first | with_reducible exact Upd.head | exact Upd.at_ (by assumption) | exact Upd.set (by assumption) | apply Upd.tail))
        case hfit => simp
        rintro _ _ ⟨rfl, rfl⟩
        simp only [spl, List.set_cons_zero, List.set_cons_succ, List.toList_toArray, List.take_succ_cons, List.take_zero, List.drop_succ_cons, List.drop_zero, List.nil_append, List.cons_append, List.append_nil, List.length_cons, List.length_nil, Nat.zero_add, Nat.reduceAdd, List.take_nil, List.drop_nil]
        refine' HL_q rfl rfl (QV_assign Ev.const) ?_
        simp only [List.set_cons_zero, List.set_cons_succ, Int.toNat_natCast, Nat.reduceAdd, Nat.reduceMul, Int.reduceToNat, List.getElem_toArray, List.getElem_cons_zero, List.getElem_cons_succ, cells_agg, cells_int, cells_bool, cells_slice, cells_ptr, e1]
        refine HL_nil ?_
        refine hN8 _ _ ?_
        try clear hN8 N8
        refine HC_ret ?_
        try simp only [thenK, blockK]
        refine kr _ _ ?_
        refine' Lv_cell_tmp rfl rfl Try.isAgg36 Try.sizeOf36 ?hm ?hn rfl ?post ?le
        case hm => (repeat (first | exact List.Mem.head _ | assumption | exact List.mem_of_getElem? (by assumption) | exact mem_set_self (by assumption) | apply List.Mem.tail))
        case hn => rfl
        case post => exact ⟨_, rfl, rfl⟩
        case le => (first | with_reducible exact Le.refl | (refine Le.of ?_; (repeat (first | with_reducible exact Sp.refl | with_reducible exact Sp.nil | (apply Sp.pick; focus ((repeat (first | with_reducible exact Rm.head | with_reducible apply Rm.tail)); done)) | with_reducible refine Sp.drop ?_))))
end Go.Proofs.Ytcilfoicoambhaa
