import Derived.Test.YtcilfoicoambhaaSt9
set_option linter.unusedVariables false
set_option linter.unusedSimpArgs false
set_option maxRecDepth 20000
set_option maxHeartbeats 1000000
namespace Go.Proofs.Ytcilfoicoambhaa
open Go Go.Hw Go.RowKit

variable {w0 : World} {R : List Asn}

theorem heard_got {b off k c : Nat} {id fresh : Nat} {credit e : Int} {bv lv cv : Value} {last fin : Bool} {A : Option Addr} {xs : List UInt8} {lost came : List Run}
    (hd : Sl w0 R 1 A k (u8C ((xs.drop off).take k))) (hl : Small lost) (hc : Small came) (hnl : lost.length ≤ 1000000) (hnc : came.length ≤ 1000000) (hk : 0 < k)
    (hok : off + k ≤ fresh) (hfr : fresh ≤ xs.length) (hxs : xs.length ≤ 1048576) (hid : id ≤ 4611686018427387903) (hfin : fin = true → last = true ∧ e ≠ 0 ∧ off + k = xs.length) :
    CH Try.prog w0 75 #[.pointer (some ⟨b, 0, none⟩), .agg (frmC id off fin (.slice A k c)), .func (.func 76) #[] #[]]
      (pt b (.cells (sndC id credit bv fresh lv cv last e false) 105 (0, 0)) :: own 5 1 bv xs.length (u8C xs) :: own 107 2 lv lost.length (runC lost) :: own 107 2 cv came.length (runC came) :: R) fun v R' => ∃ lv' cv',
      v = .int .i64 0 ∧ R' = pt b (.cells (sndC id credit bv fresh lv' cv' last (if fin then 3 else e) false) 105 (0, 0)) :: own 5 1 bv xs.length (u8C xs) :: own 107 2 lv' (withoutR lost off (off + k : Nat)).length (runC (withoutR lost off (off + k : Nat))) :: own 107 2 cv' (wi came (off, (off + k : Nat))).length (runC (wi came (off, (off + k : Nat)))) :: R := by
  unfold frmC sndC
  refine CH_of Try.func75 rfl fun K kn kr kp => ?_
  simp only [Try.ntmps75, List.size_toArray, List.length_cons, List.length_nil, Nat.reduceAdd, Nat.reduceSub, Array.replicate_succ, Array.replicate_zero, List.push_toArray, List.append_toArray, List.nil_append, List.cons_append]
  refine HC_seq fun N1 hN1 => ?_
  refine HC_region ?_
  refine' HL_s rfl rfl (SO_box (Ev.tmp rfl) rfl) ?_
  rintro _ _ ⟨g4, rfl, rfl⟩
  simp only [List.set_cons_zero, List.set_cons_succ, Int.toNat_natCast, Nat.reduceAdd, Nat.reduceMul, Int.reduceToNat, List.getElem_toArray, List.getElem_cons_zero, List.getElem_cons_succ, cells_agg, cells_int, cells_bool, cells_slice, cells_ptr]
  refine' HL_q rfl rfl (QV_assign Ev.const) ?_
  simp only [List.set_cons_zero, List.set_cons_succ, Int.toNat_natCast, Nat.reduceAdd, Nat.reduceMul, Int.reduceToNat, List.getElem_toArray, List.getElem_cons_zero, List.getElem_cons_succ, cells_agg, cells_int, cells_bool, cells_slice, cells_ptr]
  refine HL_nil ?_
  refine hN1 _ _ ?_
  try clear hN1 N1
  refine HC_seq fun N2 hN2 => ?_
  refine HC_seq fun N3 hN3 => ?_
  refine HC_region ?_
  refine' HL_q rfl rfl (QV_move (Ev.tmp rfl)) ?_
  simp only [List.set_cons_zero, List.set_cons_succ, Int.toNat_natCast, Nat.reduceAdd, Nat.reduceMul, Int.reduceToNat, List.getElem_toArray, List.getElem_cons_zero, List.getElem_cons_succ, cells_agg, cells_int, cells_bool, cells_slice, cells_ptr]
  -- operation 1
  refine' HL_call rfl en50 (call_fn (EvL.cons (Ev.tmp rfl) EvL.nil).evs) (there_made (List.mem_cons_of_mem _ (List.mem_cons_self ..)) rfl) ?_
  rintro _ _ ⟨rfl, rfl⟩
  simp only [List.set_cons_zero, List.set_cons_succ, Int.toNat_natCast, Nat.reduceAdd, Nat.reduceMul, Int.reduceToNat, List.getElem_toArray, List.getElem_cons_zero, List.getElem_cons_succ, cells_agg, cells_int, cells_bool, cells_slice, cells_ptr]
  refine' HL_q rfl rfl (QV_un (Ev.tmp rfl) ?hr) ?_
  case hr => intro w; first | (go_simp; done) | (go_simp; rfl)
  simp only [List.set_cons_zero, List.set_cons_succ, Int.toNat_natCast, Nat.reduceAdd, Nat.reduceMul, Int.reduceToNat, List.getElem_toArray, List.getElem_cons_zero, List.getElem_cons_succ, cells_agg, cells_int, cells_bool, cells_slice, cells_ptr]
  refine HL_nil ?_
  refine hN3 _ _ ?_
  try clear hN3 N3
  refine HC_false rfl ?_
  refine HC_skip ?_
  refine hN2 _ _ ?_
  try clear hN2 N2
  refine HC_seq fun N5 hN5 => ?_
  refine HC_region ?_
  refine' HL_q rfl rfl (QV_move (Ev.tmp rfl)) ?_
  simp only [List.set_cons_zero, List.set_cons_succ, Int.toNat_natCast, Nat.reduceAdd, Nat.reduceMul, Int.reduceToNat, List.getElem_toArray, List.getElem_cons_zero, List.getElem_cons_succ, cells_agg, cells_int, cells_bool, cells_slice, cells_ptr]
  first
    | (refine' HL_q rfl rfl (QV_loadA (Ev.tmp rfl) Try.isAgg36 Try.sizeOf36 ?hm ?hv ?hn) ?_; (case hm => (repeat (first | exact List.Mem.head _ | assumption | exact List.mem_of_getElem? (by assumption) | exact mem_set_self (by assumption) | apply List.Mem.tail))); (case hv => (simp only [List.toList_toArray, List.take_succ_cons, List.take_zero, List.drop_succ_cons, List.drop_zero, List.take_nil]; rfl)); (case hn => rfl))
    | (refine' HL_q rfl rfl (QV_loadRA (Ev.tmp rfl) ?hp Try.isAgg36 Try.sizeOf36 ?hs ?hv ?hn) ?_; (case hs => (first | assumption | (refine' Sl.sub (by assumption) ?_; (repeat (first | with_reducible exact List.Sublist.refl _ | with_reducible apply List.Sublist.cons_cons | with_reducible apply List.Sublist.cons))))); (case hv => (first  | rfl)); (case hp => (first | rfl | omega)); (case hn => rfl))
  simp only [List.set_cons_zero, List.set_cons_succ, Int.toNat_natCast, Nat.reduceAdd, Nat.reduceMul, Int.reduceToNat, List.getElem_toArray, List.getElem_cons_zero, List.getElem_cons_succ, cells_agg, cells_int, cells_bool, cells_slice, cells_ptr]
  -- operation 2
  refine' HL_call rfl en100 (call_fn (EvL.cons (Ev.tmp rfl) (EvL.cons (Ev.tmp rfl) EvL.nil)).evs) ((mine_calls (fresh := fresh) (bv := bv) (lv := lv) (cv := cv) (credit := credit) (reset := false) (List.mem_cons_of_mem _ (List.mem_cons_self ..)) (by simp) (hd.sub (by repeat (first | exact List.Sublist.refl _ | apply List.Sublist.cons))) hok hfr hxs hid hfin)) ?_
  rintro _ _ ⟨rfl, rfl⟩
  simp only [List.set_cons_zero, List.set_cons_succ, Int.toNat_natCast, Nat.reduceAdd, Nat.reduceMul, Int.reduceToNat, List.getElem_toArray, List.getElem_cons_zero, List.getElem_cons_succ, cells_agg, cells_int, cells_bool, cells_slice, cells_ptr]
  refine' HL_q rfl rfl (QV_move (Ev.tmp rfl)) ?_
  simp only [List.set_cons_zero, List.set_cons_succ, Int.toNat_natCast, Nat.reduceAdd, Nat.reduceMul, Int.reduceToNat, List.getElem_toArray, List.getElem_cons_zero, List.getElem_cons_succ, cells_agg, cells_int, cells_bool, cells_slice, cells_ptr]
  refine' HL_q rfl rfl (QV_extract (Ev.tmp rfl) rfl) ?_
  simp only [List.set_cons_zero, List.set_cons_succ, Int.toNat_natCast, Nat.reduceAdd, Nat.reduceMul, Int.reduceToNat, List.getElem_toArray, List.getElem_cons_zero, List.getElem_cons_succ, cells_agg, cells_int, cells_bool, cells_slice, cells_ptr]
  refine' HL_q rfl rfl (QV_extract (Ev.tmp rfl) rfl) ?_
  simp only [List.set_cons_zero, List.set_cons_succ, Int.toNat_natCast, Nat.reduceAdd, Nat.reduceMul, Int.reduceToNat, List.getElem_toArray, List.getElem_cons_zero, List.getElem_cons_succ, cells_agg, cells_int, cells_bool, cells_slice, cells_ptr]
  refine' HL_s rfl rfl (SO_alloc Try.zeroValue107 rfl) ?_
  rintro _ _ ⟨g7, rfl, rfl⟩
  simp only [List.set_cons_zero, List.set_cons_succ, Int.toNat_natCast, Nat.reduceAdd, Nat.reduceMul, Int.reduceToNat, List.getElem_toArray, List.getElem_cons_zero, List.getElem_cons_succ, cells_agg, cells_int, cells_bool, cells_slice, cells_ptr]
  refine' HL_s rfl rfl (SO_store (Ev.tmp rfl) (Ev.tmp rfl) Try.sizeOf107 ?hvs ?hn ?h1 ?hm ?hfit) ?_
  case hvs => rfl
  case hn => rfl
  case h1 => rfl
  case hm => (repeat (first | with_reducible exact Upd.head | exact Upd.at_ (by assumption) | exact Upd.set (by assumption) | apply Upd.tail))
  case hfit => simp
  rintro _ _ ⟨rfl, rfl⟩
  simp only [spl, List.set_cons_zero, List.set_cons_succ, List.toList_toArray, List.take_succ_cons, List.take_zero, List.drop_succ_cons, List.drop_zero, List.nil_append, List.cons_append, List.append_nil, List.length_cons, List.length_nil, Nat.zero_add, Nat.reduceAdd, List.take_nil, List.drop_nil]
  refine' HL_q rfl rfl (QV_assign (Ev.tmp rfl)) ?_
  simp only [List.set_cons_zero, List.set_cons_succ, Int.toNat_natCast, Nat.reduceAdd, Nat.reduceMul, Int.reduceToNat, List.getElem_toArray, List.getElem_cons_zero, List.getElem_cons_succ, cells_agg, cells_int, cells_bool, cells_slice, cells_ptr]
  refine HL_nil ?_
  refine hN5 _ _ ?_
  try clear hN5 N5
  refine HC_seq fun N6 hN6 => ?_
  refine HC_seq fun N7 hN7 => ?_
  refine HC_region ?_
  refine' HL_q rfl rfl (QV_move (Ev.tmp rfl)) ?_
  simp only [List.set_cons_zero, List.set_cons_succ, Int.toNat_natCast, Nat.reduceAdd, Nat.reduceMul, Int.reduceToNat, List.getElem_toArray, List.getElem_cons_zero, List.getElem_cons_succ, cells_agg, cells_int, cells_bool, cells_slice, cells_ptr]
  refine' HL_q rfl rfl (QV_un (Ev.tmp rfl) ?hr) ?_
  case hr => intro w; first | (go_simp; done) | (go_simp; rfl)
  simp only [List.set_cons_zero, List.set_cons_succ, Int.toNat_natCast, Nat.reduceAdd, Nat.reduceMul, Int.reduceToNat, List.getElem_toArray, List.getElem_cons_zero, List.getElem_cons_succ, cells_agg, cells_int, cells_bool, cells_slice, cells_ptr]
  refine HL_nil ?_
  refine hN7 _ _ ?_
  try clear hN7 N7
  refine HC_false rfl ?_
  refine HC_skip ?_
  refine hN6 _ _ ?_
  try clear hN6 N6
  refine HC_seq fun N9 hN9 => ?_
  refine HC_seq fun N10 hN10 => ?_
  refine HC_region ?_
  refine' HL_q rfl rfl (QV_move (Ev.tmp rfl)) ?_
  simp only [List.set_cons_zero, List.set_cons_succ, Int.toNat_natCast, Nat.reduceAdd, Nat.reduceMul, Int.reduceToNat, List.getElem_toArray, List.getElem_cons_zero, List.getElem_cons_succ, cells_agg, cells_int, cells_bool, cells_slice, cells_ptr]
  refine' HL_q rfl rfl (QV_nil (Ev.tmp rfl)) ?_
  simp only [List.set_cons_zero, List.set_cons_succ, Int.toNat_natCast, Nat.reduceAdd, Nat.reduceMul, Int.reduceToNat, List.getElem_toArray, List.getElem_cons_zero, List.getElem_cons_succ, cells_agg, cells_int, cells_bool, cells_slice, cells_ptr]
  refine' HL_q rfl rfl (QV_field (Ev.tmp rfl) (fld105_9 _ _)) ?_
  simp only [List.set_cons_zero, List.set_cons_succ, Int.toNat_natCast, Nat.reduceAdd, Nat.reduceMul, Int.reduceToNat, List.getElem_toArray, List.getElem_cons_zero, List.getElem_cons_succ, cells_agg, cells_int, cells_bool, cells_slice, cells_ptr]
  first
    | (refine' HL_q rfl rfl (QV_load1 (Ev.tmp rfl) Try.isAgg4 ?hm ?hv) ?_; (case hm => (repeat (first | exact List.Mem.head _ | assumption | exact List.mem_of_getElem? (by assumption) | exact mem_set_self (by assumption) | apply List.Mem.tail))); (case hv => (first | rfl | assumption)))
    | (refine' HL_q rfl rfl (QV_loadR (Ev.tmp rfl) ?hp Try.isAgg4 ?hs ?hv) ?_; (case hs => (first | assumption | (refine' Sl.sub (by assumption) ?_; (repeat (first | with_reducible exact List.Sublist.refl _ | with_reducible apply List.Sublist.cons_cons | with_reducible apply List.Sublist.cons))))); (case hv => (first  | rfl | assumption)); (case hp => (first | rfl | omega)))
  simp only [List.set_cons_zero, List.set_cons_succ, Int.toNat_natCast, Nat.reduceAdd, Nat.reduceMul, Int.reduceToNat, List.getElem_toArray, List.getElem_cons_zero, List.getElem_cons_succ, cells_agg, cells_int, cells_bool, cells_slice, cells_ptr]
  refine' HL_q rfl rfl (QV_un (Ev.tmp rfl) ?hr) ?_
  case hr => intro w; first | (go_simp; done) | (go_simp; rfl)
  simp only [List.set_cons_zero, List.set_cons_succ, Int.toNat_natCast, Nat.reduceAdd, Nat.reduceMul, Int.reduceToNat, List.getElem_toArray, List.getElem_cons_zero, List.getElem_cons_succ, cells_agg, cells_int, cells_bool, cells_slice, cells_ptr]
  refine HL_nil ?_
  refine hN10 _ _ ?_
  try clear hN10 N10
  refine HC_true rfl ?_
  refine HC_region ?_
  refine' HL_q rfl rfl (QV_move (Ev.tmp rfl)) ?_
  simp only [List.set_cons_zero, List.set_cons_succ, Int.toNat_natCast, Nat.reduceAdd, Nat.reduceMul, Int.reduceToNat, List.getElem_toArray, List.getElem_cons_zero, List.getElem_cons_succ, cells_agg, cells_int, cells_bool, cells_slice, cells_ptr]
  refine' HL_q rfl rfl (QV_move (Ev.tmp rfl)) ?_
  simp only [List.set_cons_zero, List.set_cons_succ, Int.toNat_natCast, Nat.reduceAdd, Nat.reduceMul, Int.reduceToNat, List.getElem_toArray, List.getElem_cons_zero, List.getElem_cons_succ, cells_agg, cells_int, cells_bool, cells_slice, cells_ptr]
  first
    | (refine' HL_q rfl rfl (QV_loadA (Ev.tmp rfl) Try.isAgg107 Try.sizeOf107 ?hm ?hv ?hn) ?_; (case hm => (repeat (first | exact List.Mem.head _ | assumption | exact List.mem_of_getElem? (by assumption) | exact mem_set_self (by assumption) | apply List.Mem.tail))); (case hv => (simp only [List.toList_toArray, List.take_succ_cons, List.take_zero, List.drop_succ_cons, List.drop_zero, List.take_nil]; rfl)); (case hn => rfl))
    | (refine' HL_q rfl rfl (QV_loadRA (Ev.tmp rfl) ?hp Try.isAgg107 Try.sizeOf107 ?hs ?hv ?hn) ?_; (case hs => (first | assumption | (refine' Sl.sub (by assumption) ?_; (repeat (first | with_reducible exact List.Sublist.refl _ | with_reducible apply List.Sublist.cons_cons | with_reducible apply List.Sublist.cons))))); (case hv => (first  | rfl)); (case hp => (first | rfl | omega)); (case hn => rfl))
  simp only [List.set_cons_zero, List.set_cons_succ, Int.toNat_natCast, Nat.reduceAdd, Nat.reduceMul, Int.reduceToNat, List.getElem_toArray, List.getElem_cons_zero, List.getElem_cons_succ, cells_agg, cells_int, cells_bool, cells_slice, cells_ptr]
  refine' HL_q rfl rfl (QV_field (Ev.tmp rfl) (fld36_5 _ _)) ?_
  simp only [List.set_cons_zero, List.set_cons_succ, Int.toNat_natCast, Nat.reduceAdd, Nat.reduceMul, Int.reduceToNat, List.getElem_toArray, List.getElem_cons_zero, List.getElem_cons_succ, cells_agg, cells_int, cells_bool, cells_slice, cells_ptr]
  first
    | (refine' HL_q rfl rfl (QV_load1 (Ev.tmp rfl) Try.isAgg4 ?hm ?hv) ?_; (case hm => (repeat (first | exact List.Mem.head _ | assumption | exact List.mem_of_getElem? (by assumption) | exact mem_set_self (by assumption) | apply List.Mem.tail))); (case hv => (first | rfl | assumption)))
    | (refine' HL_q rfl rfl (QV_loadR (Ev.tmp rfl) ?hp Try.isAgg4 ?hs ?hv) ?_; (case hs => (first | assumption | (refine' Sl.sub (by assumption) ?_; (repeat (first | with_reducible exact List.Sublist.refl _ | with_reducible apply List.Sublist.cons_cons | with_reducible apply List.Sublist.cons))))); (case hv => (first  | rfl | assumption)); (case hp => (first | rfl | omega)))
  simp only [List.set_cons_zero, List.set_cons_succ, Int.toNat_natCast, Nat.reduceAdd, Nat.reduceMul, Int.reduceToNat, List.getElem_toArray, List.getElem_cons_zero, List.getElem_cons_succ, cells_agg, cells_int, cells_bool, cells_slice, cells_ptr]
  -- operation 5
  refine' HL_call rfl en76 (call_val (Ev.tmp rfl) (EvL.cons (Ev.tmp rfl) (EvL.cons (Ev.tmp rfl) (EvL.cons (Ev.tmp rfl) EvL.nil))).evs) ((CH_pull3 (by repeat (first | with_reducible exact Rm.head | with_reducible apply Rm.tail)) (by repeat (first | with_reducible exact Rm.head | with_reducible apply Rm.tail)) (by repeat (first | with_reducible exact Rm.head | with_reducible apply Rm.tail)) (got_calls hl hc hnl hnc (by omega) (by omega) (by omega)))) ?_
  rintro _ _ ⟨lv', cv', rfl⟩
  simp only [List.set_cons_zero, List.set_cons_succ, Int.toNat_natCast, Nat.reduceAdd, Nat.reduceMul, Int.reduceToNat, List.getElem_toArray, List.getElem_cons_zero, List.getElem_cons_succ, cells_agg, cells_int, cells_bool, cells_slice, cells_ptr]
  refine HL_nil ?_
  refine hN9 _ _ ?_
  try clear hN9 N9
  refine HC_seq fun N11 hN11 => ?_
  refine HC_region ?_
  refine' HL_q rfl rfl (QV_assign Ev.const) ?_
  simp only [List.set_cons_zero, List.set_cons_succ, Int.toNat_natCast, Nat.reduceAdd, Nat.reduceMul, Int.reduceToNat, List.getElem_toArray, List.getElem_cons_zero, List.getElem_cons_succ, cells_agg, cells_int, cells_bool, cells_slice, cells_ptr]
  refine HL_nil ?_
  refine hN11 _ _ ?_
  try clear hN11 N11
  refine HC_ret ?_
  try simp only [thenK, blockK]
  refine kr _ _ ?_
  refine' Lv_tmp rfl rfl ?post ?le
  case post => exact ⟨lv', cv', rfl, rfl⟩
  case le => (first | with_reducible exact Le.refl | (refine Le.of ?_; (repeat (first | with_reducible exact Sp.refl | with_reducible exact Sp.nil | (apply Sp.pick; focus ((repeat (first | with_reducible exact Rm.head | with_reducible apply Rm.tail)); done)) | with_reducible refine Sp.drop ?_))))

theorem got_frame {b off k c : Nat} {id fresh : Nat} {credit e : Int} {bv lv cv : Value} {last fin : Bool} {A : Option Addr} {xs : List UInt8} {lost came : List Run}
    (hd : Sl w0 R 1 A k (u8C ((xs.drop off).take k))) (hl : Small lost) (hc : Small came) (hnl : lost.length ≤ 1000000) (hnc : came.length ≤ 1000000) (hk : 0 < k)
    (hok : off + k ≤ fresh) (hfr : fresh ≤ xs.length) (hxs : xs.length ≤ 1048576) (hid : id ≤ 4611686018427387903) (hfin : fin = true → last = true ∧ e ≠ 0 ∧ off + k = xs.length) :
    CH Try.prog w0 41 #[.pointer (some ⟨b, 0, none⟩), .agg (frmC id off fin (.slice A k c))]
      (pt b (.cells (sndC id credit bv fresh lv cv last e false) 105 (0, 0)) :: own 5 1 bv xs.length (u8C xs) :: own 107 2 lv lost.length (runC lost) :: own 107 2 cv came.length (runC came) :: R) fun v R' => ∃ lv' cv',
      v = .int .i64 0 ∧ R' = pt b (.cells (sndC id credit bv fresh lv' cv' last (if fin then 3 else e) false) 105 (0, 0)) :: own 5 1 bv xs.length (u8C xs) :: own 107 2 lv' (withoutR lost off (off + k : Nat)).length (runC (withoutR lost off (off + k : Nat))) :: own 107 2 cv' (wi came (off, (off + k : Nat))).length (runC (wi came (off, (off + k : Nat)))) :: R := by
  unfold frmC
  refine CH_of Try.func41 rfl fun K kn kr kp => ?_
  simp only [Try.ntmps41, List.size_toArray, List.length_cons, List.length_nil, Nat.reduceAdd, Nat.reduceSub, Array.replicate_succ, Array.replicate_zero, List.push_toArray, List.append_toArray, List.nil_append, List.cons_append]
  refine HC_seq fun N1 hN1 => ?_
  refine HC_region ?_
  refine' HL_s rfl rfl (SO_box (Ev.tmp rfl) rfl) ?_
  rintro _ _ ⟨g3, rfl, rfl⟩
  simp only [List.set_cons_zero, List.set_cons_succ, Int.toNat_natCast, Nat.reduceAdd, Nat.reduceMul, Int.reduceToNat, List.getElem_toArray, List.getElem_cons_zero, List.getElem_cons_succ, cells_agg, cells_int, cells_bool, cells_slice, cells_ptr]
  refine' HL_q rfl rfl (QV_assign Ev.const) ?_
  simp only [List.set_cons_zero, List.set_cons_succ, Int.toNat_natCast, Nat.reduceAdd, Nat.reduceMul, Int.reduceToNat, List.getElem_toArray, List.getElem_cons_zero, List.getElem_cons_succ, cells_agg, cells_int, cells_bool, cells_slice, cells_ptr]
  refine HL_nil ?_
  refine hN1 _ _ ?_
  try clear hN1 N1
  refine HC_seq fun N2 hN2 => ?_
  refine HC_region ?_
  refine' HL_q rfl rfl (QV_move (Ev.tmp rfl)) ?_
  simp only [List.set_cons_zero, List.set_cons_succ, Int.toNat_natCast, Nat.reduceAdd, Nat.reduceMul, Int.reduceToNat, List.getElem_toArray, List.getElem_cons_zero, List.getElem_cons_succ, cells_agg, cells_int, cells_bool, cells_slice, cells_ptr]
  first
    | (refine' HL_q rfl rfl (QV_loadA (Ev.tmp rfl) Try.isAgg36 Try.sizeOf36 ?hm ?hv ?hn) ?_; (case hm => (repeat (first | exact List.Mem.head _ | assumption | exact List.mem_of_getElem? (by assumption) | exact mem_set_self (by assumption) | apply List.Mem.tail))); (case hv => (simp only [List.toList_toArray, List.take_succ_cons, List.take_zero, List.drop_succ_cons, List.drop_zero, List.take_nil]; rfl)); (case hn => rfl))
    | (refine' HL_q rfl rfl (QV_loadRA (Ev.tmp rfl) ?hp Try.isAgg36 Try.sizeOf36 ?hs ?hv ?hn) ?_; (case hs => (first | assumption | (refine' Sl.sub (by assumption) ?_; (repeat (first | with_reducible exact List.Sublist.refl _ | with_reducible apply List.Sublist.cons_cons | with_reducible apply List.Sublist.cons))))); (case hv => (first  | rfl)); (case hp => (first | rfl | omega)); (case hn => rfl))
  simp only [List.set_cons_zero, List.set_cons_succ, Int.toNat_natCast, Nat.reduceAdd, Nat.reduceMul, Int.reduceToNat, List.getElem_toArray, List.getElem_cons_zero, List.getElem_cons_succ, cells_agg, cells_int, cells_bool, cells_slice, cells_ptr]
  -- operation 2
  refine' HL_call rfl en75 (call_fn (EvL.cons (Ev.tmp rfl) (EvL.cons (Ev.tmp rfl) (EvL.cons Ev.func EvL.nil))).evs) ((CH_pull4 (by repeat (first | with_reducible exact Rm.head | with_reducible apply Rm.tail)) (by repeat (first | with_reducible exact Rm.head | with_reducible apply Rm.tail)) (by repeat (first | with_reducible exact Rm.head | with_reducible apply Rm.tail)) (by repeat (first | with_reducible exact Rm.head | with_reducible apply Rm.tail)) (heard_got (fresh := fresh) (xs := xs) (hd.sub (by repeat (first | exact List.Sublist.refl _ | apply List.Sublist.cons))) hl hc hnl hnc hk hok hfr hxs hid hfin))) ?_
  rintro _ _ ⟨lv', cv', rfl, rfl⟩
  simp only [List.set_cons_zero, List.set_cons_succ, Int.toNat_natCast, Nat.reduceAdd, Nat.reduceMul, Int.reduceToNat, List.getElem_toArray, List.getElem_cons_zero, List.getElem_cons_succ, cells_agg, cells_int, cells_bool, cells_slice, cells_ptr]
  refine' HL_q rfl rfl (QV_assign (Ev.tmp rfl)) ?_
  simp only [List.set_cons_zero, List.set_cons_succ, Int.toNat_natCast, Nat.reduceAdd, Nat.reduceMul, Int.reduceToNat, List.getElem_toArray, List.getElem_cons_zero, List.getElem_cons_succ, cells_agg, cells_int, cells_bool, cells_slice, cells_ptr]
  refine HL_nil ?_
  refine hN2 _ _ ?_
  try clear hN2 N2
  refine HC_ret ?_
  try simp only [thenK, blockK]
  refine kr _ _ ?_
  refine' Lv_tmp rfl rfl ?post ?le
  case post => exact ⟨lv', cv', rfl, rfl⟩
  case le => (first | with_reducible exact Le.refl | (refine Le.of ?_; (repeat (first | with_reducible exact Sp.refl | with_reducible exact Sp.nil | (apply Sp.pick; focus ((repeat (first | with_reducible exact Rm.head | with_reducible apply Rm.tail)); done)) | with_reducible refine Sp.drop ?_))))
end Go.Proofs.Ytcilfoicoambhaa
