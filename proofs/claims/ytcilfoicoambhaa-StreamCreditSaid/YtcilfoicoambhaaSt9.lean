import Derived.Test.YtcilfoicoambhaaSt8
set_option linter.unusedVariables false
set_option linter.unusedSimpArgs false
set_option maxRecDepth 20000
set_option maxHeartbeats 1000000
namespace Go.Proofs.Ytcilfoicoambhaa
open Go Go.Hw Go.RowKit

variable {w0 : World} {R : List Asn}

theorem mine_calls {b off k c : Nat} {id fresh : Nat} {credit e : Int} {bv lv cv : Value} {last reset fin : Bool} {A : Option Addr} {xs : List UInt8}
    (hb : pt b (.cells (sndC id credit bv fresh lv cv last e reset) 105 (0, 0)) ∈ R) (hbv : own 5 1 bv xs.length (u8C xs) ∈ R) (hd : Sl w0 R 1 A k (u8C ((xs.drop off).take k)))
    (hok : off + k ≤ fresh) (hfr : fresh ≤ xs.length) (hxs : xs.length ≤ 1048576) (hid : id ≤ 4611686018427387903) (hfin : fin = true → last = true ∧ e ≠ 0 ∧ off + k = xs.length) :
    CH Try.prog w0 100 #[.pointer (some ⟨b, 0, none⟩), .agg (frmC id off fin (.slice A k c))] R fun v R' => v = .tuple #[.agg #[.int .i64 off, .int .i64 (off + k : Nat)], .bool true] ∧ R' = R := by
  refine CH_fact (fun w hw => own_shape hw hbv) ?_
  rintro ⟨A1, c1, rfl, hc, hc', ha⟩
  have hsl : Sl w0 R 1 A1 xs.length (u8C xs) := Sl.of_own hbv (by simp [u8C_length]) (u8C_one _) ha
  have e1 : (off : Int) + (k : Int) = ((off + k : Nat) : Int) := by simp
  have hkl : k = ((xs.drop off).take k).length := by simp; omega
  have hcut : Sl w0 R 1 (if c1 = off then A1 else A1.map (·.add (off * 1))) (off + k - off) (u8C ((xs.drop off).take k)) := by
    have h := hsl.cutA (lo := off) (hi := off + k) (by omega) (by omega) hc
    rwa [show ((u8C xs).drop (off * 1)).take ((off + k - off) * 1) = u8C ((xs.drop off).take k) by rw [Nat.mul_one, Nat.mul_one, show off + k - off = k by omega, u8C_drop, u8C_take]] at h
  unfold sndC at hb
  unfold frmC
  refine CH_of Try.func100 rfl fun K kn kr kp => ?_
  simp only [Try.ntmps100, List.size_toArray, List.length_cons, List.length_nil, Nat.reduceAdd, Nat.reduceSub, Array.replicate_succ, Array.replicate_zero, List.push_toArray, List.append_toArray, List.nil_append, List.cons_append]
  refine HC_seq fun N1 hN1 => ?_
  refine HC_region ?_
  refine' HL_s rfl rfl (SO_box (Ev.tmp rfl) rfl) ?_
  rintro _ _ ⟨g3, rfl, rfl⟩
  simp only [List.set_cons_zero, List.set_cons_succ, Int.toNat_natCast, Nat.reduceAdd, Nat.reduceMul, Int.reduceToNat, List.getElem_toArray, List.getElem_cons_zero, List.getElem_cons_succ, cells_agg, cells_int, cells_bool, cells_slice, cells_ptr]
  refine' HL_s rfl rfl (SO_alloc Try.zeroValue107 rfl) ?_
  rintro _ _ ⟨g4, rfl, rfl⟩
  simp only [List.set_cons_zero, List.set_cons_succ, Int.toNat_natCast, Nat.reduceAdd, Nat.reduceMul, Int.reduceToNat, List.getElem_toArray, List.getElem_cons_zero, List.getElem_cons_succ, cells_agg, cells_int, cells_bool, cells_slice, cells_ptr]
  refine' HL_q rfl rfl (QV_assign Ev.const) ?_
  simp only [List.set_cons_zero, List.set_cons_succ, Int.toNat_natCast, Nat.reduceAdd, Nat.reduceMul, Int.reduceToNat, List.getElem_toArray, List.getElem_cons_zero, List.getElem_cons_succ, cells_agg, cells_int, cells_bool, cells_slice, cells_ptr]
  refine HL_nil ?_
  refine hN1 _ _ ?_
  try clear hN1 N1
  refine HC_seq fun N2 hN2 => ?_
  refine HC_seq fun N3 hN3 => ?_
  refine HC_draw 53 [] _ mixed rfl ?_
  refine' DA_take (i := 0) rfl (by kernel_rfl) (fun _ _ _ _ h => (kp _ _ _ h).elim) rfl (QV_field (Ev.tmp rfl) (fld36_0 _ _)) ?_
  simp only [List.set_cons_zero, List.set_cons_succ, Int.toNat_natCast, Nat.reduceAdd, Nat.reduceMul, Int.reduceToNat, List.getElem_toArray, List.getElem_cons_zero, List.getElem_cons_succ, cells_agg, cells_int, cells_bool, cells_slice, cells_ptr, e1]
  first
    | (refine' DA_take (i := 1) rfl (by kernel_rfl) (fun _ _ _ _ h => (kp _ _ _ h).elim) rfl (QV_load1 (Ev.tmp rfl) Try.isAgg33 ?hm ?hv) ?_; (case hm => (repeat (first | exact List.Mem.head _ | assumption | exact List.mem_of_getElem? (by assumption) | exact mem_set_self (by assumption) | apply List.Mem.tail))); (case hv => (first | rfl | assumption)))
    | (refine' DA_take (i := 1) rfl (by kernel_rfl) (fun _ _ _ _ h => (kp _ _ _ h).elim) rfl (QV_loadR (Ev.tmp rfl) ?hp Try.isAgg33 ?hs ?hv) ?_; (case hs => (first | assumption | (refine' Sl.sub (by assumption) ?_; (repeat (first | with_reducible exact List.Sublist.refl _ | with_reducible apply List.Sublist.cons_cons | with_reducible apply List.Sublist.cons))))); (case hv => (first  | rfl | assumption)); (case hp => (first | rfl | omega)))
  simp only [List.set_cons_zero, List.set_cons_succ, Int.toNat_natCast, Nat.reduceAdd, Nat.reduceMul, Int.reduceToNat, List.getElem_toArray, List.getElem_cons_zero, List.getElem_cons_succ, cells_agg, cells_int, cells_bool, cells_slice, cells_ptr, e1]
  first
    | (refine' DA_take (i := 2) rfl (by kernel_rfl) (fun _ _ _ _ h => (kp _ _ _ h).elim) rfl (QV_neq_y (Ev.tmp rfl) Ev.const ?hb) ?_; case hb => omega)
    | (refine' DA_take (i := 2) rfl (by kernel_rfl) (fun _ _ _ _ h => (kp _ _ _ h).elim) rfl (QV_neq_n (Ev.tmp rfl) Ev.const ?hb) ?_; case hb => omega)
    | (refine' DA_take (i := 2) rfl (by kernel_rfl) (fun _ _ _ _ h => (kp _ _ _ h).elim) rfl (QV_neq (Ev.tmp rfl) Ev.const) ?_)
  simp only [List.set_cons_zero, List.set_cons_succ, Int.toNat_natCast, Nat.reduceAdd, Nat.reduceMul, Int.reduceToNat, List.getElem_toArray, List.getElem_cons_zero, List.getElem_cons_succ, cells_agg, cells_int, cells_bool, cells_slice, cells_ptr, e1]
  refine' DA_take (i := 3) rfl (by kernel_rfl) (fun _ _ _ _ h => (kp _ _ _ h).elim) rfl (QV_move (Ev.tmp rfl)) ?_
  simp only [List.set_cons_zero, List.set_cons_succ, Int.toNat_natCast, Nat.reduceAdd, Nat.reduceMul, Int.reduceToNat, List.getElem_toArray, List.getElem_cons_zero, List.getElem_cons_succ, cells_agg, cells_int, cells_bool, cells_slice, cells_ptr, e1]
  first
    | (refine' DA_skip (i := 4) rfl (by kernel_rfl) (fun _ _ _ _ h => (kp _ _ _ h).elim) rfl ?_; simp only [List.set_cons_zero, List.set_cons_succ, Int.toNat_natCast, Nat.reduceAdd, Nat.reduceMul, Int.reduceToNat, List.getElem_toArray, List.getElem_cons_zero, List.getElem_cons_succ, cells_agg, cells_int, cells_bool, cells_slice, cells_ptr, e1])
    |
      refine' DA_take (i := 4) rfl (by kernel_rfl) (fun _ _ _ _ h => (kp _ _ _ h).elim) rfl (QV_field (Ev.tmp rfl) (fld36_1 _ _)) ?_
      simp only [List.set_cons_zero, List.set_cons_succ, Int.toNat_natCast, Nat.reduceAdd, Nat.reduceMul, Int.reduceToNat, List.getElem_toArray, List.getElem_cons_zero, List.getElem_cons_succ, cells_agg, cells_int, cells_bool, cells_slice, cells_ptr, e1]
  first
    | (refine' DA_skip (i := 5) rfl (by kernel_rfl) (fun _ _ _ _ h => (kp _ _ _ h).elim) rfl ?_; simp only [List.set_cons_zero, List.set_cons_succ, Int.toNat_natCast, Nat.reduceAdd, Nat.reduceMul, Int.reduceToNat, List.getElem_toArray, List.getElem_cons_zero, List.getElem_cons_succ, cells_agg, cells_int, cells_bool, cells_slice, cells_ptr, e1])
    |
      first
        | (refine' DA_take (i := 5) rfl (by kernel_rfl) (fun _ _ _ _ h => (kp _ _ _ h).elim) rfl (QV_load1 (Ev.tmp rfl) Try.isAgg30 ?hm ?hv) ?_; (case hm => (repeat (first | exact List.Mem.head _ | assumption | exact List.mem_of_getElem? (by assumption) | exact mem_set_self (by assumption) | apply List.Mem.tail))); (case hv => (first | rfl | assumption)))
        | (refine' DA_take (i := 5) rfl (by kernel_rfl) (fun _ _ _ _ h => (kp _ _ _ h).elim) rfl (QV_loadR (Ev.tmp rfl) ?hp Try.isAgg30 ?hs ?hv) ?_; (case hs => (first | assumption | (refine' Sl.sub (by assumption) ?_; (repeat (first | with_reducible exact List.Sublist.refl _ | with_reducible apply List.Sublist.cons_cons | with_reducible apply List.Sublist.cons))))); (case hv => (first  | rfl | assumption)); (case hp => (first | rfl | omega)))
      simp only [List.set_cons_zero, List.set_cons_succ, Int.toNat_natCast, Nat.reduceAdd, Nat.reduceMul, Int.reduceToNat, List.getElem_toArray, List.getElem_cons_zero, List.getElem_cons_succ, cells_agg, cells_int, cells_bool, cells_slice, cells_ptr, e1]
  first
    | (refine' DA_skip (i := 6) rfl (by kernel_rfl) (fun _ _ _ _ h => (kp _ _ _ h).elim) rfl ?_; simp only [List.set_cons_zero, List.set_cons_succ, Int.toNat_natCast, Nat.reduceAdd, Nat.reduceMul, Int.reduceToNat, List.getElem_toArray, List.getElem_cons_zero, List.getElem_cons_succ, cells_agg, cells_int, cells_bool, cells_slice, cells_ptr, e1])
    |
      refine' DA_take (i := 6) rfl (by kernel_rfl) (fun _ _ _ _ h => (kp _ _ _ h).elim) rfl (QV_move (Ev.tmp rfl)) ?_
      simp only [List.set_cons_zero, List.set_cons_succ, Int.toNat_natCast, Nat.reduceAdd, Nat.reduceMul, Int.reduceToNat, List.getElem_toArray, List.getElem_cons_zero, List.getElem_cons_succ, cells_agg, cells_int, cells_bool, cells_slice, cells_ptr, e1]
  first
    | (refine' DA_skip (i := 7) rfl (by kernel_rfl) (fun _ _ _ _ h => (kp _ _ _ h).elim) rfl ?_; simp only [List.set_cons_zero, List.set_cons_succ, Int.toNat_natCast, Nat.reduceAdd, Nat.reduceMul, Int.reduceToNat, List.getElem_toArray, List.getElem_cons_zero, List.getElem_cons_succ, cells_agg, cells_int, cells_bool, cells_slice, cells_ptr, e1])
    |
      refine' DA_take (i := 7) rfl (by kernel_rfl) (fun _ _ _ _ h => (kp _ _ _ h).elim) rfl (QV_nil (Ev.tmp rfl)) ?_
      simp only [List.set_cons_zero, List.set_cons_succ, Int.toNat_natCast, Nat.reduceAdd, Nat.reduceMul, Int.reduceToNat, List.getElem_toArray, List.getElem_cons_zero, List.getElem_cons_succ, cells_agg, cells_int, cells_bool, cells_slice, cells_ptr, e1]
  first
    | (refine' DA_skip (i := 8) rfl (by kernel_rfl) (fun _ _ _ _ h => (kp _ _ _ h).elim) rfl ?_; simp only [List.set_cons_zero, List.set_cons_succ, Int.toNat_natCast, Nat.reduceAdd, Nat.reduceMul, Int.reduceToNat, List.getElem_toArray, List.getElem_cons_zero, List.getElem_cons_succ, cells_agg, cells_int, cells_bool, cells_slice, cells_ptr, e1])
    |
      refine' DA_take (i := 8) rfl (by kernel_rfl) (fun _ _ _ _ h => (kp _ _ _ h).elim) rfl (QV_field (Ev.tmp rfl) (fld105_1 _ _)) ?_
      simp only [List.set_cons_zero, List.set_cons_succ, Int.toNat_natCast, Nat.reduceAdd, Nat.reduceMul, Int.reduceToNat, List.getElem_toArray, List.getElem_cons_zero, List.getElem_cons_succ, cells_agg, cells_int, cells_bool, cells_slice, cells_ptr, e1]
  first
    | (refine' DA_skip (i := 9) rfl (by kernel_rfl) (fun _ _ _ _ h => (kp _ _ _ h).elim) rfl ?_; simp only [List.set_cons_zero, List.set_cons_succ, Int.toNat_natCast, Nat.reduceAdd, Nat.reduceMul, Int.reduceToNat, List.getElem_toArray, List.getElem_cons_zero, List.getElem_cons_succ, cells_agg, cells_int, cells_bool, cells_slice, cells_ptr, e1])
    |
      first
        | (refine' DA_take (i := 9) rfl (by kernel_rfl) (fun _ _ _ _ h => (kp _ _ _ h).elim) rfl (QV_load1 (Ev.tmp rfl) Try.isAgg30 ?hm ?hv) ?_; (case hm => (repeat (first | exact List.Mem.head _ | assumption | exact List.mem_of_getElem? (by assumption) | exact mem_set_self (by assumption) | apply List.Mem.tail))); (case hv => (first | rfl | assumption)))
        | (refine' DA_take (i := 9) rfl (by kernel_rfl) (fun _ _ _ _ h => (kp _ _ _ h).elim) rfl (QV_loadR (Ev.tmp rfl) ?hp Try.isAgg30 ?hs ?hv) ?_; (case hs => (first | assumption | (refine' Sl.sub (by assumption) ?_; (repeat (first | with_reducible exact List.Sublist.refl _ | with_reducible apply List.Sublist.cons_cons | with_reducible apply List.Sublist.cons))))); (case hv => (first  | rfl | assumption)); (case hp => (first | rfl | omega)))
      simp only [List.set_cons_zero, List.set_cons_succ, Int.toNat_natCast, Nat.reduceAdd, Nat.reduceMul, Int.reduceToNat, List.getElem_toArray, List.getElem_cons_zero, List.getElem_cons_succ, cells_agg, cells_int, cells_bool, cells_slice, cells_ptr, e1]
  first
    | (refine' DA_skip (i := 10) rfl (by kernel_rfl) (fun _ _ _ _ h => (kp _ _ _ h).elim) rfl ?_; simp only [List.set_cons_zero, List.set_cons_succ, Int.toNat_natCast, Nat.reduceAdd, Nat.reduceMul, Int.reduceToNat, List.getElem_toArray, List.getElem_cons_zero, List.getElem_cons_succ, cells_agg, cells_int, cells_bool, cells_slice, cells_ptr, e1])
    |
      first
        | (refine' DA_take (i := 10) rfl (by kernel_rfl) (fun _ _ _ _ h => (kp _ _ _ h).elim) rfl (QV_neq_y (Ev.tmp rfl) (Ev.tmp rfl) ?hb) ?_; case hb => omega)
        | (refine' DA_take (i := 10) rfl (by kernel_rfl) (fun _ _ _ _ h => (kp _ _ _ h).elim) rfl (QV_neq_n (Ev.tmp rfl) (Ev.tmp rfl) ?hb) ?_; case hb => omega)
        | (refine' DA_take (i := 10) rfl (by kernel_rfl) (fun _ _ _ _ h => (kp _ _ _ h).elim) rfl (QV_neq (Ev.tmp rfl) (Ev.tmp rfl)) ?_)
      simp only [List.set_cons_zero, List.set_cons_succ, Int.toNat_natCast, Nat.reduceAdd, Nat.reduceMul, Int.reduceToNat, List.getElem_toArray, List.getElem_cons_zero, List.getElem_cons_succ, cells_agg, cells_int, cells_bool, cells_slice, cells_ptr, e1]
  refine' DA_take (i := 11) rfl (by kernel_rfl) (fun _ _ _ _ h => (kp _ _ _ h).elim) rfl (QV_pick (Ev.tmp rfl) Ev.const (Ev.tmp rfl)) ?_
  simp only [if_true, if_false, Bool.false_eq_true, reduceIte, List.set_cons_zero, List.set_cons_succ, Int.toNat_natCast, Nat.reduceAdd, Nat.reduceMul, Int.reduceToNat, List.getElem_toArray, List.getElem_cons_zero, List.getElem_cons_succ, cells_agg, cells_int, cells_bool, cells_slice, cells_ptr, e1]
  refine' DA_take (i := 12) rfl (by kernel_rfl) (fun _ _ _ _ h => (kp _ _ _ h).elim) rfl (QV_move (Ev.tmp rfl)) ?_
  simp only [List.set_cons_zero, List.set_cons_succ, Int.toNat_natCast, Nat.reduceAdd, Nat.reduceMul, Int.reduceToNat, List.getElem_toArray, List.getElem_cons_zero, List.getElem_cons_succ, cells_agg, cells_int, cells_bool, cells_slice, cells_ptr, e1]
  first
    | (refine' DA_skip (i := 13) rfl (by kernel_rfl) (fun _ _ _ _ h => (kp _ _ _ h).elim) rfl ?_; simp only [List.set_cons_zero, List.set_cons_succ, Int.toNat_natCast, Nat.reduceAdd, Nat.reduceMul, Int.reduceToNat, List.getElem_toArray, List.getElem_cons_zero, List.getElem_cons_succ, cells_agg, cells_int, cells_bool, cells_slice, cells_ptr, e1])
    |
      refine' DA_take (i := 13) rfl (by kernel_rfl) (fun _ _ _ _ h => (kp _ _ _ h).elim) rfl (QV_field (Ev.tmp rfl) (fld36_3 _ _)) ?_
      simp only [List.set_cons_zero, List.set_cons_succ, Int.toNat_natCast, Nat.reduceAdd, Nat.reduceMul, Int.reduceToNat, List.getElem_toArray, List.getElem_cons_zero, List.getElem_cons_succ, cells_agg, cells_int, cells_bool, cells_slice, cells_ptr, e1]
  first
    | (refine' DA_skip (i := 14) rfl (by kernel_rfl) (fun _ _ _ _ h => (kp _ _ _ h).elim) rfl ?_; simp only [List.set_cons_zero, List.set_cons_succ, Int.toNat_natCast, Nat.reduceAdd, Nat.reduceMul, Int.reduceToNat, List.getElem_toArray, List.getElem_cons_zero, List.getElem_cons_succ, cells_agg, cells_int, cells_bool, cells_slice, cells_ptr, e1])
    |
      first
        | (refine' DA_take (i := 14) rfl (by kernel_rfl) (fun _ _ _ _ h => (kp _ _ _ h).elim) rfl (QV_load1 (Ev.tmp rfl) Try.isAgg30 ?hm ?hv) ?_; (case hm => (repeat (first | exact List.Mem.head _ | assumption | exact List.mem_of_getElem? (by assumption) | exact mem_set_self (by assumption) | apply List.Mem.tail))); (case hv => (first | rfl | assumption)))
        | (refine' DA_take (i := 14) rfl (by kernel_rfl) (fun _ _ _ _ h => (kp _ _ _ h).elim) rfl (QV_loadR (Ev.tmp rfl) ?hp Try.isAgg30 ?hs ?hv) ?_; (case hs => (first | assumption | (refine' Sl.sub (by assumption) ?_; (repeat (first | with_reducible exact List.Sublist.refl _ | with_reducible apply List.Sublist.cons_cons | with_reducible apply List.Sublist.cons))))); (case hv => (first  | rfl | assumption)); (case hp => (first | rfl | omega)))
      simp only [List.set_cons_zero, List.set_cons_succ, Int.toNat_natCast, Nat.reduceAdd, Nat.reduceMul, Int.reduceToNat, List.getElem_toArray, List.getElem_cons_zero, List.getElem_cons_succ, cells_agg, cells_int, cells_bool, cells_slice, cells_ptr, e1]
  first
    | (refine' DA_skip (i := 15) rfl (by kernel_rfl) (fun _ _ _ _ h => (kp _ _ _ h).elim) rfl ?_; simp only [List.set_cons_zero, List.set_cons_succ, Int.toNat_natCast, Nat.reduceAdd, Nat.reduceMul, Int.reduceToNat, List.getElem_toArray, List.getElem_cons_zero, List.getElem_cons_succ, cells_agg, cells_int, cells_bool, cells_slice, cells_ptr, e1])
    |
      first
        | (refine' DA_take (i := 15) rfl (by kernel_rfl) (fun _ _ _ _ h => (kp _ _ _ h).elim) rfl (QV_neq_y (Ev.tmp rfl) Ev.const ?hb) ?_; case hb => omega)
        | (refine' DA_take (i := 15) rfl (by kernel_rfl) (fun _ _ _ _ h => (kp _ _ _ h).elim) rfl (QV_neq_n (Ev.tmp rfl) Ev.const ?hb) ?_; case hb => omega)
        | (refine' DA_take (i := 15) rfl (by kernel_rfl) (fun _ _ _ _ h => (kp _ _ _ h).elim) rfl (QV_neq (Ev.tmp rfl) Ev.const) ?_)
      simp only [List.set_cons_zero, List.set_cons_succ, Int.toNat_natCast, Nat.reduceAdd, Nat.reduceMul, Int.reduceToNat, List.getElem_toArray, List.getElem_cons_zero, List.getElem_cons_succ, cells_agg, cells_int, cells_bool, cells_slice, cells_ptr, e1]
  refine' DA_take (i := 16) rfl (by kernel_rfl) (fun _ _ _ _ h => (kp _ _ _ h).elim) rfl (QV_pick (Ev.tmp rfl) Ev.const (Ev.tmp rfl)) ?_
  simp only [if_true, if_false, Bool.false_eq_true, reduceIte, List.set_cons_zero, List.set_cons_succ, Int.toNat_natCast, Nat.reduceAdd, Nat.reduceMul, Int.reduceToNat, List.getElem_toArray, List.getElem_cons_zero, List.getElem_cons_succ, cells_agg, cells_int, cells_bool, cells_slice, cells_ptr, e1]
  refine' DA_take (i := 17) rfl (by kernel_rfl) (fun _ _ _ _ h => (kp _ _ _ h).elim) rfl (QV_move (Ev.tmp rfl)) ?_
  simp only [List.set_cons_zero, List.set_cons_succ, Int.toNat_natCast, Nat.reduceAdd, Nat.reduceMul, Int.reduceToNat, List.getElem_toArray, List.getElem_cons_zero, List.getElem_cons_succ, cells_agg, cells_int, cells_bool, cells_slice, cells_ptr, e1]
  first
    | (refine' DA_skip (i := 18) rfl (by kernel_rfl) (fun _ _ _ _ h => (kp _ _ _ h).elim) rfl ?_; simp only [List.set_cons_zero, List.set_cons_succ, Int.toNat_natCast, Nat.reduceAdd, Nat.reduceMul, Int.reduceToNat, List.getElem_toArray, List.getElem_cons_zero, List.getElem_cons_succ, cells_agg, cells_int, cells_bool, cells_slice, cells_ptr, e1])
    |
      refine' DA_take (i := 18) rfl (by kernel_rfl) (fun _ _ _ _ h => (kp _ _ _ h).elim) rfl (QV_field (Ev.tmp rfl) (fld36_4 _ _)) ?_
      simp only [List.set_cons_zero, List.set_cons_succ, Int.toNat_natCast, Nat.reduceAdd, Nat.reduceMul, Int.reduceToNat, List.getElem_toArray, List.getElem_cons_zero, List.getElem_cons_succ, cells_agg, cells_int, cells_bool, cells_slice, cells_ptr, e1]
  first
    | (refine' DA_skip (i := 19) rfl (by kernel_rfl) (fun _ _ _ _ h => (kp _ _ _ h).elim) rfl ?_; simp only [List.set_cons_zero, List.set_cons_succ, Int.toNat_natCast, Nat.reduceAdd, Nat.reduceMul, Int.reduceToNat, List.getElem_toArray, List.getElem_cons_zero, List.getElem_cons_succ, cells_agg, cells_int, cells_bool, cells_slice, cells_ptr, e1])
    |
      first
        | (refine' DA_take (i := 19) rfl (by kernel_rfl) (fun _ _ _ _ h => (kp _ _ _ h).elim) rfl (QV_load1 (Ev.tmp rfl) Try.isAgg30 ?hm ?hv) ?_; (case hm => (repeat (first | exact List.Mem.head _ | assumption | exact List.mem_of_getElem? (by assumption) | exact mem_set_self (by assumption) | apply List.Mem.tail))); (case hv => (first | rfl | assumption)))
        | (refine' DA_take (i := 19) rfl (by kernel_rfl) (fun _ _ _ _ h => (kp _ _ _ h).elim) rfl (QV_loadR (Ev.tmp rfl) ?hp Try.isAgg30 ?hs ?hv) ?_; (case hs => (first | assumption | (refine' Sl.sub (by assumption) ?_; (repeat (first | with_reducible exact List.Sublist.refl _ | with_reducible apply List.Sublist.cons_cons | with_reducible apply List.Sublist.cons))))); (case hv => (first  | rfl | assumption)); (case hp => (first | rfl | omega)))
      simp only [List.set_cons_zero, List.set_cons_succ, Int.toNat_natCast, Nat.reduceAdd, Nat.reduceMul, Int.reduceToNat, List.getElem_toArray, List.getElem_cons_zero, List.getElem_cons_succ, cells_agg, cells_int, cells_bool, cells_slice, cells_ptr, e1]
  first
    | (refine' DA_skip (i := 20) rfl (by kernel_rfl) (fun _ _ _ _ h => (kp _ _ _ h).elim) rfl ?_; simp only [List.set_cons_zero, List.set_cons_succ, Int.toNat_natCast, Nat.reduceAdd, Nat.reduceMul, Int.reduceToNat, List.getElem_toArray, List.getElem_cons_zero, List.getElem_cons_succ, cells_agg, cells_int, cells_bool, cells_slice, cells_ptr, e1])
    |
      first
        | (refine' DA_take (i := 20) rfl (by kernel_rfl) (fun _ _ _ _ h => (kp _ _ _ h).elim) rfl (QV_neq_y (Ev.tmp rfl) Ev.const ?hb) ?_; case hb => omega)
        | (refine' DA_take (i := 20) rfl (by kernel_rfl) (fun _ _ _ _ h => (kp _ _ _ h).elim) rfl (QV_neq_n (Ev.tmp rfl) Ev.const ?hb) ?_; case hb => omega)
        | (refine' DA_take (i := 20) rfl (by kernel_rfl) (fun _ _ _ _ h => (kp _ _ _ h).elim) rfl (QV_neq (Ev.tmp rfl) Ev.const) ?_)
      simp only [List.set_cons_zero, List.set_cons_succ, Int.toNat_natCast, Nat.reduceAdd, Nat.reduceMul, Int.reduceToNat, List.getElem_toArray, List.getElem_cons_zero, List.getElem_cons_succ, cells_agg, cells_int, cells_bool, cells_slice, cells_ptr, e1]
  refine' DA_take (i := 21) rfl (by kernel_rfl) (fun _ _ _ _ h => (kp _ _ _ h).elim) rfl (QV_pick (Ev.tmp rfl) Ev.const (Ev.tmp rfl)) ?_
  simp only [if_true, if_false, Bool.false_eq_true, reduceIte, List.set_cons_zero, List.set_cons_succ, Int.toNat_natCast, Nat.reduceAdd, Nat.reduceMul, Int.reduceToNat, List.getElem_toArray, List.getElem_cons_zero, List.getElem_cons_succ, cells_agg, cells_int, cells_bool, cells_slice, cells_ptr, e1]
  refine' DA_take (i := 22) rfl (by kernel_rfl) (fun _ _ _ _ h => (kp _ _ _ h).elim) rfl (QV_move (Ev.tmp rfl)) ?_
  simp only [List.set_cons_zero, List.set_cons_succ, Int.toNat_natCast, Nat.reduceAdd, Nat.reduceMul, Int.reduceToNat, List.getElem_toArray, List.getElem_cons_zero, List.getElem_cons_succ, cells_agg, cells_int, cells_bool, cells_slice, cells_ptr, e1]
  first
    | (refine' DA_skip (i := 23) rfl (by kernel_rfl) (fun _ _ _ _ h => (kp _ _ _ h).elim) rfl ?_; simp only [List.set_cons_zero, List.set_cons_succ, Int.toNat_natCast, Nat.reduceAdd, Nat.reduceMul, Int.reduceToNat, List.getElem_toArray, List.getElem_cons_zero, List.getElem_cons_succ, cells_agg, cells_int, cells_bool, cells_slice, cells_ptr, e1])
    |
      refine' DA_take (i := 23) rfl (by kernel_rfl) (fun _ _ _ _ h => (kp _ _ _ h).elim) rfl (QV_field (Ev.tmp rfl) (fld36_7 _ _)) ?_
      simp only [List.set_cons_zero, List.set_cons_succ, Int.toNat_natCast, Nat.reduceAdd, Nat.reduceMul, Int.reduceToNat, List.getElem_toArray, List.getElem_cons_zero, List.getElem_cons_succ, cells_agg, cells_int, cells_bool, cells_slice, cells_ptr, e1]
  first
    | (refine' DA_skip (i := 24) rfl (by kernel_rfl) (fun _ _ _ _ h => (kp _ _ _ h).elim) rfl ?_; simp only [List.set_cons_zero, List.set_cons_succ, Int.toNat_natCast, Nat.reduceAdd, Nat.reduceMul, Int.reduceToNat, List.getElem_toArray, List.getElem_cons_zero, List.getElem_cons_succ, cells_agg, cells_int, cells_bool, cells_slice, cells_ptr, e1])
    |
      first
        | (refine' DA_take (i := 24) rfl (by kernel_rfl) (fun _ _ _ _ h => (kp _ _ _ h).elim) rfl (QV_load1 (Ev.tmp rfl) Try.isAgg34 ?hm ?hv) ?_; (case hm => (repeat (first | exact List.Mem.head _ | assumption | exact List.mem_of_getElem? (by assumption) | exact mem_set_self (by assumption) | apply List.Mem.tail))); (case hv => (first | rfl | assumption)))
        | (refine' DA_take (i := 24) rfl (by kernel_rfl) (fun _ _ _ _ h => (kp _ _ _ h).elim) rfl (QV_loadR (Ev.tmp rfl) ?hp Try.isAgg34 ?hs ?hv) ?_; (case hs => (first | assumption | (refine' Sl.sub (by assumption) ?_; (repeat (first | with_reducible exact List.Sublist.refl _ | with_reducible apply List.Sublist.cons_cons | with_reducible apply List.Sublist.cons))))); (case hv => (first  | rfl | assumption)); (case hp => (first | rfl | omega)))
      simp only [List.set_cons_zero, List.set_cons_succ, Int.toNat_natCast, Nat.reduceAdd, Nat.reduceMul, Int.reduceToNat, List.getElem_toArray, List.getElem_cons_zero, List.getElem_cons_succ, cells_agg, cells_int, cells_bool, cells_slice, cells_ptr, e1]
  first
    | (refine' DA_skip (i := 25) rfl (by kernel_rfl) (fun _ _ _ _ h => (kp _ _ _ h).elim) rfl ?_; simp only [List.set_cons_zero, List.set_cons_succ, Int.toNat_natCast, Nat.reduceAdd, Nat.reduceMul, Int.reduceToNat, List.getElem_toArray, List.getElem_cons_zero, List.getElem_cons_succ, cells_agg, cells_int, cells_bool, cells_slice, cells_ptr, e1])
    |
      refine' DA_take (i := 25) rfl (by kernel_rfl) (fun _ _ _ _ h => (kp _ _ _ h).elim) rfl (QV_len (Ev.tmp rfl) Try.underlying34) ?_
      simp only [List.set_cons_zero, List.set_cons_succ, Int.toNat_natCast, Nat.reduceAdd, Nat.reduceMul, Int.reduceToNat, List.getElem_toArray, List.getElem_cons_zero, List.getElem_cons_succ, cells_agg, cells_int, cells_bool, cells_slice, cells_ptr, e1]
  first
    | (refine' DA_skip (i := 26) rfl (by kernel_rfl) (fun _ _ _ _ h => (kp _ _ _ h).elim) rfl ?_; simp only [List.set_cons_zero, List.set_cons_succ, Int.toNat_natCast, Nat.reduceAdd, Nat.reduceMul, Int.reduceToNat, List.getElem_toArray, List.getElem_cons_zero, List.getElem_cons_succ, cells_agg, cells_int, cells_bool, cells_slice, cells_ptr, e1])
    |
      first
        | (refine' DA_take (i := 26) rfl (by kernel_rfl) (fun _ _ _ _ h => (kp _ _ _ h).elim) rfl (QV_gtr_y (Ev.tmp rfl) Ev.const ?hb) ?_; case hb => omega)
        | (refine' DA_take (i := 26) rfl (by kernel_rfl) (fun _ _ _ _ h => (kp _ _ _ h).elim) rfl (QV_gtr_n (Ev.tmp rfl) Ev.const ?hb) ?_; case hb => omega)
        | (refine' DA_take (i := 26) rfl (by kernel_rfl) (fun _ _ _ _ h => (kp _ _ _ h).elim) rfl (QV_gtr (Ev.tmp rfl) Ev.const) ?_)
      simp only [List.set_cons_zero, List.set_cons_succ, Int.toNat_natCast, Nat.reduceAdd, Nat.reduceMul, Int.reduceToNat, List.getElem_toArray, List.getElem_cons_zero, List.getElem_cons_succ, cells_agg, cells_int, cells_bool, cells_slice, cells_ptr, e1]
  refine' DA_take (i := 27) rfl (by kernel_rfl) (fun _ _ _ _ h => (kp _ _ _ h).elim) rfl (QV_pick (Ev.tmp rfl) Ev.const (Ev.tmp rfl)) ?_
  simp only [if_true, if_false, Bool.false_eq_true, reduceIte, List.set_cons_zero, List.set_cons_succ, Int.toNat_natCast, Nat.reduceAdd, Nat.reduceMul, Int.reduceToNat, List.getElem_toArray, List.getElem_cons_zero, List.getElem_cons_succ, cells_agg, cells_int, cells_bool, cells_slice, cells_ptr, e1]
  refine' DA_take (i := 28) rfl (by kernel_rfl) (fun _ _ _ _ h => (kp _ _ _ h).elim) rfl (QV_move (Ev.tmp rfl)) ?_
  simp only [List.set_cons_zero, List.set_cons_succ, Int.toNat_natCast, Nat.reduceAdd, Nat.reduceMul, Int.reduceToNat, List.getElem_toArray, List.getElem_cons_zero, List.getElem_cons_succ, cells_agg, cells_int, cells_bool, cells_slice, cells_ptr, e1]
  first
    | (refine' DA_skip (i := 29) rfl (by kernel_rfl) (fun _ _ _ _ h => (kp _ _ _ h).elim) rfl ?_; simp only [List.set_cons_zero, List.set_cons_succ, Int.toNat_natCast, Nat.reduceAdd, Nat.reduceMul, Int.reduceToNat, List.getElem_toArray, List.getElem_cons_zero, List.getElem_cons_succ, cells_agg, cells_int, cells_bool, cells_slice, cells_ptr, e1])
    |
      refine' DA_take (i := 29) rfl (by kernel_rfl) (fun _ _ _ _ h => (kp _ _ _ h).elim) rfl (QV_field (Ev.tmp rfl) (fld36_2 _ _)) ?_
      simp only [List.set_cons_zero, List.set_cons_succ, Int.toNat_natCast, Nat.reduceAdd, Nat.reduceMul, Int.reduceToNat, List.getElem_toArray, List.getElem_cons_zero, List.getElem_cons_succ, cells_agg, cells_int, cells_bool, cells_slice, cells_ptr, e1]
  first
    | (refine' DA_skip (i := 30) rfl (by kernel_rfl) (fun _ _ _ _ h => (kp _ _ _ h).elim) rfl ?_; simp only [List.set_cons_zero, List.set_cons_succ, Int.toNat_natCast, Nat.reduceAdd, Nat.reduceMul, Int.reduceToNat, List.getElem_toArray, List.getElem_cons_zero, List.getElem_cons_succ, cells_agg, cells_int, cells_bool, cells_slice, cells_ptr, e1])
    |
      first
        | (refine' DA_take (i := 30) rfl (by kernel_rfl) (fun _ _ _ _ h => (kp _ _ _ h).elim) rfl (QV_load1 (Ev.tmp rfl) Try.isAgg30 ?hm ?hv) ?_; (case hm => (repeat (first | exact List.Mem.head _ | assumption | exact List.mem_of_getElem? (by assumption) | exact mem_set_self (by assumption) | apply List.Mem.tail))); (case hv => (first | rfl | assumption)))
        | (refine' DA_take (i := 30) rfl (by kernel_rfl) (fun _ _ _ _ h => (kp _ _ _ h).elim) rfl (QV_loadR (Ev.tmp rfl) ?hp Try.isAgg30 ?hs ?hv) ?_; (case hs => (first | assumption | (refine' Sl.sub (by assumption) ?_; (repeat (first | with_reducible exact List.Sublist.refl _ | with_reducible apply List.Sublist.cons_cons | with_reducible apply List.Sublist.cons))))); (case hv => (first  | rfl | assumption)); (case hp => (first | rfl | omega)))
      simp only [List.set_cons_zero, List.set_cons_succ, Int.toNat_natCast, Nat.reduceAdd, Nat.reduceMul, Int.reduceToNat, List.getElem_toArray, List.getElem_cons_zero, List.getElem_cons_succ, cells_agg, cells_int, cells_bool, cells_slice, cells_ptr, e1]
  first
    | (refine' DA_skip (i := 31) rfl (by kernel_rfl) (fun _ _ _ _ h => (kp _ _ _ h).elim) rfl ?_; simp only [List.set_cons_zero, List.set_cons_succ, Int.toNat_natCast, Nat.reduceAdd, Nat.reduceMul, Int.reduceToNat, List.getElem_toArray, List.getElem_cons_zero, List.getElem_cons_succ, cells_agg, cells_int, cells_bool, cells_slice, cells_ptr, e1])
    |
      refine' DA_take (i := 31) rfl (by kernel_rfl) (fun _ _ _ _ h => (kp _ _ _ h).elim) rfl (QV_move (Ev.tmp rfl)) ?_
      simp only [List.set_cons_zero, List.set_cons_succ, Int.toNat_natCast, Nat.reduceAdd, Nat.reduceMul, Int.reduceToNat, List.getElem_toArray, List.getElem_cons_zero, List.getElem_cons_succ, cells_agg, cells_int, cells_bool, cells_slice, cells_ptr, e1]
  first
    | (refine' DA_skip (i := 32) rfl (by kernel_rfl) (fun _ _ _ _ h => (kp _ _ _ h).elim) rfl ?_; simp only [List.set_cons_zero, List.set_cons_succ, Int.toNat_natCast, Nat.reduceAdd, Nat.reduceMul, Int.reduceToNat, List.getElem_toArray, List.getElem_cons_zero, List.getElem_cons_succ, cells_agg, cells_int, cells_bool, cells_slice, cells_ptr, e1])
    |
      refine' DA_take (i := 32) rfl (by kernel_rfl) (fun _ _ _ _ h => (kp _ _ _ h).elim) rfl (QV_nil (Ev.tmp rfl)) ?_
      simp only [List.set_cons_zero, List.set_cons_succ, Int.toNat_natCast, Nat.reduceAdd, Nat.reduceMul, Int.reduceToNat, List.getElem_toArray, List.getElem_cons_zero, List.getElem_cons_succ, cells_agg, cells_int, cells_bool, cells_slice, cells_ptr, e1]
  first
    | (refine' DA_skip (i := 33) rfl (by kernel_rfl) (fun _ _ _ _ h => (kp _ _ _ h).elim) rfl ?_; simp only [List.set_cons_zero, List.set_cons_succ, Int.toNat_natCast, Nat.reduceAdd, Nat.reduceMul, Int.reduceToNat, List.getElem_toArray, List.getElem_cons_zero, List.getElem_cons_succ, cells_agg, cells_int, cells_bool, cells_slice, cells_ptr, e1])
    |
      refine' DA_take (i := 33) rfl (by kernel_rfl) (fun _ _ _ _ h => (kp _ _ _ h).elim) rfl (QV_field (Ev.tmp rfl) (fld105_4 _ _)) ?_
      simp only [List.set_cons_zero, List.set_cons_succ, Int.toNat_natCast, Nat.reduceAdd, Nat.reduceMul, Int.reduceToNat, List.getElem_toArray, List.getElem_cons_zero, List.getElem_cons_succ, cells_agg, cells_int, cells_bool, cells_slice, cells_ptr, e1]
  first
    | (refine' DA_skip (i := 34) rfl (by kernel_rfl) (fun _ _ _ _ h => (kp _ _ _ h).elim) rfl ?_; simp only [List.set_cons_zero, List.set_cons_succ, Int.toNat_natCast, Nat.reduceAdd, Nat.reduceMul, Int.reduceToNat, List.getElem_toArray, List.getElem_cons_zero, List.getElem_cons_succ, cells_agg, cells_int, cells_bool, cells_slice, cells_ptr, e1])
    |
      first
        | (refine' DA_take (i := 34) rfl (by kernel_rfl) (fun _ _ _ _ h => (kp _ _ _ h).elim) rfl (QV_load1 (Ev.tmp rfl) Try.isAgg3 ?hm ?hv) ?_; (case hm => (repeat (first | exact List.Mem.head _ | assumption | exact List.mem_of_getElem? (by assumption) | exact mem_set_self (by assumption) | apply List.Mem.tail))); (case hv => (first | rfl | assumption)))
        | (refine' DA_take (i := 34) rfl (by kernel_rfl) (fun _ _ _ _ h => (kp _ _ _ h).elim) rfl (QV_loadR (Ev.tmp rfl) ?hp Try.isAgg3 ?hs ?hv) ?_; (case hs => (first | assumption | (refine' Sl.sub (by assumption) ?_; (repeat (first | with_reducible exact List.Sublist.refl _ | with_reducible apply List.Sublist.cons_cons | with_reducible apply List.Sublist.cons))))); (case hv => (first  | rfl | assumption)); (case hp => (first | rfl | omega)))
      simp only [List.set_cons_zero, List.set_cons_succ, Int.toNat_natCast, Nat.reduceAdd, Nat.reduceMul, Int.reduceToNat, List.getElem_toArray, List.getElem_cons_zero, List.getElem_cons_succ, cells_agg, cells_int, cells_bool, cells_slice, cells_ptr, e1]
  first
    | (refine' DA_skip (i := 35) rfl (by kernel_rfl) (fun _ _ _ _ h => (kp _ _ _ h).elim) rfl ?_; simp only [List.set_cons_zero, List.set_cons_succ, Int.toNat_natCast, Nat.reduceAdd, Nat.reduceMul, Int.reduceToNat, List.getElem_toArray, List.getElem_cons_zero, List.getElem_cons_succ, cells_agg, cells_int, cells_bool, cells_slice, cells_ptr, e1])
    |
      refine' DA_take (i := 35) rfl (by kernel_rfl) (fun _ _ _ _ h => (kp _ _ _ h).elim) rfl (QV_cvt Try.underlying3 Try.underlying30 rfl (Ev.tmp rfl) ?hr) ?_
      case hr => first | exact IntWalk.i64_in _ (by omega) | exact IntWalk.u64_in _ (by omega) | exact IntWalk.u8_in _ (by omega) | exact IntWalk.u32_in _ (by omega) | exact IntWalk.i64_quo _ _ (by omega) | exact IntWalk.u64_quo _ _ (by omega) | rfl
      simp only [List.set_cons_zero, List.set_cons_succ, Int.toNat_natCast, Nat.reduceAdd, Nat.reduceMul, Int.reduceToNat, List.getElem_toArray, List.getElem_cons_zero, List.getElem_cons_succ, cells_agg, cells_int, cells_bool, cells_slice, cells_ptr, e1]
  first
    | (refine' DA_skip (i := 36) rfl (by kernel_rfl) (fun _ _ _ _ h => (kp _ _ _ h).elim) rfl ?_; simp only [List.set_cons_zero, List.set_cons_succ, Int.toNat_natCast, Nat.reduceAdd, Nat.reduceMul, Int.reduceToNat, List.getElem_toArray, List.getElem_cons_zero, List.getElem_cons_succ, cells_agg, cells_int, cells_bool, cells_slice, cells_ptr, e1])
    |
      first
        | (refine' DA_take (i := 36) rfl (by kernel_rfl) (fun _ _ _ _ h => (kp _ _ _ h).elim) rfl (QV_gtr_y (Ev.tmp rfl) (Ev.tmp rfl) ?hb) ?_; case hb => omega)
        | (refine' DA_take (i := 36) rfl (by kernel_rfl) (fun _ _ _ _ h => (kp _ _ _ h).elim) rfl (QV_gtr_n (Ev.tmp rfl) (Ev.tmp rfl) ?hb) ?_; case hb => omega)
        | (refine' DA_take (i := 36) rfl (by kernel_rfl) (fun _ _ _ _ h => (kp _ _ _ h).elim) rfl (QV_gtr (Ev.tmp rfl) (Ev.tmp rfl)) ?_)
      simp only [List.set_cons_zero, List.set_cons_succ, Int.toNat_natCast, Nat.reduceAdd, Nat.reduceMul, Int.reduceToNat, List.getElem_toArray, List.getElem_cons_zero, List.getElem_cons_succ, cells_agg, cells_int, cells_bool, cells_slice, cells_ptr, e1]
  refine' DA_take (i := 37) rfl (by kernel_rfl) (fun _ _ _ _ h => (kp _ _ _ h).elim) rfl (QV_pick (Ev.tmp rfl) Ev.const (Ev.tmp rfl)) ?_
  simp only [if_true, if_false, Bool.false_eq_true, reduceIte, List.set_cons_zero, List.set_cons_succ, Int.toNat_natCast, Nat.reduceAdd, Nat.reduceMul, Int.reduceToNat, List.getElem_toArray, List.getElem_cons_zero, List.getElem_cons_succ, cells_agg, cells_int, cells_bool, cells_slice, cells_ptr, e1]
  refine' DA_take (i := 38) rfl (by kernel_rfl) (fun _ _ _ _ h => (kp _ _ _ h).elim) rfl (QV_move (Ev.tmp rfl)) ?_
  simp only [List.set_cons_zero, List.set_cons_succ, Int.toNat_natCast, Nat.reduceAdd, Nat.reduceMul, Int.reduceToNat, List.getElem_toArray, List.getElem_cons_zero, List.getElem_cons_succ, cells_agg, cells_int, cells_bool, cells_slice, cells_ptr, e1]
  first
    | (refine' DA_skip (i := 39) rfl (by kernel_rfl) (fun _ _ _ _ h => (kp _ _ _ h).elim) rfl ?_; simp only [List.set_cons_zero, List.set_cons_succ, Int.toNat_natCast, Nat.reduceAdd, Nat.reduceMul, Int.reduceToNat, List.getElem_toArray, List.getElem_cons_zero, List.getElem_cons_succ, cells_agg, cells_int, cells_bool, cells_slice, cells_ptr, e1])
    |
      refine' DA_take (i := 39) rfl (by kernel_rfl) (fun _ _ _ _ h => (kp _ _ _ h).elim) rfl (QV_field (Ev.tmp rfl) (fld36_6 _ _)) ?_
      simp only [List.set_cons_zero, List.set_cons_succ, Int.toNat_natCast, Nat.reduceAdd, Nat.reduceMul, Int.reduceToNat, List.getElem_toArray, List.getElem_cons_zero, List.getElem_cons_succ, cells_agg, cells_int, cells_bool, cells_slice, cells_ptr, e1]
  first
    | (refine' DA_skip (i := 40) rfl (by kernel_rfl) (fun _ _ _ _ h => (kp _ _ _ h).elim) rfl ?_; simp only [List.set_cons_zero, List.set_cons_succ, Int.toNat_natCast, Nat.reduceAdd, Nat.reduceMul, Int.reduceToNat, List.getElem_toArray, List.getElem_cons_zero, List.getElem_cons_succ, cells_agg, cells_int, cells_bool, cells_slice, cells_ptr, e1])
    |
      first
        | (refine' DA_take (i := 40) rfl (by kernel_rfl) (fun _ _ _ _ h => (kp _ _ _ h).elim) rfl (QV_load1 (Ev.tmp rfl) Try.isAgg22 ?hm ?hv) ?_; (case hm => (repeat (first | exact List.Mem.head _ | assumption | exact List.mem_of_getElem? (by assumption) | exact mem_set_self (by assumption) | apply List.Mem.tail))); (case hv => (first | rfl | assumption)))
        | (refine' DA_take (i := 40) rfl (by kernel_rfl) (fun _ _ _ _ h => (kp _ _ _ h).elim) rfl (QV_loadR (Ev.tmp rfl) ?hp Try.isAgg22 ?hs ?hv) ?_; (case hs => (first | assumption | (refine' Sl.sub (by assumption) ?_; (repeat (first | with_reducible exact List.Sublist.refl _ | with_reducible apply List.Sublist.cons_cons | with_reducible apply List.Sublist.cons))))); (case hv => (first  | rfl | assumption)); (case hp => (first | rfl | omega)))
      simp only [List.set_cons_zero, List.set_cons_succ, Int.toNat_natCast, Nat.reduceAdd, Nat.reduceMul, Int.reduceToNat, List.getElem_toArray, List.getElem_cons_zero, List.getElem_cons_succ, cells_agg, cells_int, cells_bool, cells_slice, cells_ptr, e1]
  first
    | (refine' DA_skip (i := 41) rfl (by kernel_rfl) (fun _ _ _ _ h => (kp _ _ _ h).elim) rfl ?_; simp only [List.set_cons_zero, List.set_cons_succ, Int.toNat_natCast, Nat.reduceAdd, Nat.reduceMul, Int.reduceToNat, List.getElem_toArray, List.getElem_cons_zero, List.getElem_cons_succ, cells_agg, cells_int, cells_bool, cells_slice, cells_ptr, e1])
    |
      refine' DA_take (i := 41) rfl (by kernel_rfl) (fun _ _ _ _ h => (kp _ _ _ h).elim) rfl (QV_len (Ev.tmp rfl) Try.underlying22) ?_
      simp only [List.set_cons_zero, List.set_cons_succ, Int.toNat_natCast, Nat.reduceAdd, Nat.reduceMul, Int.reduceToNat, List.getElem_toArray, List.getElem_cons_zero, List.getElem_cons_succ, cells_agg, cells_int, cells_bool, cells_slice, cells_ptr, e1]
  first
    | (refine' DA_skip (i := 42) rfl (by kernel_rfl) (fun _ _ _ _ h => (kp _ _ _ h).elim) rfl ?_; simp only [List.set_cons_zero, List.set_cons_succ, Int.toNat_natCast, Nat.reduceAdd, Nat.reduceMul, Int.reduceToNat, List.getElem_toArray, List.getElem_cons_zero, List.getElem_cons_succ, cells_agg, cells_int, cells_bool, cells_slice, cells_ptr, e1])
    |
      refine' DA_take (i := 42) rfl (by kernel_rfl) (fun _ _ _ _ h => (kp _ _ _ h).elim) rfl (QV_cvt Try.underlying3 Try.underlying30 rfl (Ev.tmp rfl) ?hr) ?_
      case hr => first | exact IntWalk.i64_in _ (by omega) | exact IntWalk.u64_in _ (by omega) | exact IntWalk.u8_in _ (by omega) | exact IntWalk.u32_in _ (by omega) | exact IntWalk.i64_quo _ _ (by omega) | exact IntWalk.u64_quo _ _ (by omega) | rfl
      simp only [List.set_cons_zero, List.set_cons_succ, Int.toNat_natCast, Nat.reduceAdd, Nat.reduceMul, Int.reduceToNat, List.getElem_toArray, List.getElem_cons_zero, List.getElem_cons_succ, cells_agg, cells_int, cells_bool, cells_slice, cells_ptr, e1]
  first
    | (refine' DA_skip (i := 43) rfl (by kernel_rfl) (fun _ _ _ _ h => (kp _ _ _ h).elim) rfl ?_; simp only [List.set_cons_zero, List.set_cons_succ, Int.toNat_natCast, Nat.reduceAdd, Nat.reduceMul, Int.reduceToNat, List.getElem_toArray, List.getElem_cons_zero, List.getElem_cons_succ, cells_agg, cells_int, cells_bool, cells_slice, cells_ptr, e1])
    |
      refine' DA_take (i := 43) rfl (by kernel_rfl) (fun _ _ _ _ h => (kp _ _ _ h).elim) rfl (QV_move (Ev.tmp rfl)) ?_
      simp only [List.set_cons_zero, List.set_cons_succ, Int.toNat_natCast, Nat.reduceAdd, Nat.reduceMul, Int.reduceToNat, List.getElem_toArray, List.getElem_cons_zero, List.getElem_cons_succ, cells_agg, cells_int, cells_bool, cells_slice, cells_ptr, e1]
  first
    | (refine' DA_skip (i := 44) rfl (by kernel_rfl) (fun _ _ _ _ h => (kp _ _ _ h).elim) rfl ?_; simp only [List.set_cons_zero, List.set_cons_succ, Int.toNat_natCast, Nat.reduceAdd, Nat.reduceMul, Int.reduceToNat, List.getElem_toArray, List.getElem_cons_zero, List.getElem_cons_succ, cells_agg, cells_int, cells_bool, cells_slice, cells_ptr, e1])
    |
      refine' DA_take (i := 44) rfl (by kernel_rfl) (fun _ _ _ _ h => (kp _ _ _ h).elim) rfl (QV_nil (Ev.tmp rfl)) ?_
      simp only [List.set_cons_zero, List.set_cons_succ, Int.toNat_natCast, Nat.reduceAdd, Nat.reduceMul, Int.reduceToNat, List.getElem_toArray, List.getElem_cons_zero, List.getElem_cons_succ, cells_agg, cells_int, cells_bool, cells_slice, cells_ptr, e1]
  first
    | (refine' DA_skip (i := 45) rfl (by kernel_rfl) (fun _ _ _ _ h => (kp _ _ _ h).elim) rfl ?_; simp only [List.set_cons_zero, List.set_cons_succ, Int.toNat_natCast, Nat.reduceAdd, Nat.reduceMul, Int.reduceToNat, List.getElem_toArray, List.getElem_cons_zero, List.getElem_cons_succ, cells_agg, cells_int, cells_bool, cells_slice, cells_ptr, e1])
    |
      refine' DA_take (i := 45) rfl (by kernel_rfl) (fun _ _ _ _ h => (kp _ _ _ h).elim) rfl (QV_field (Ev.tmp rfl) (fld105_4 _ _)) ?_
      simp only [List.set_cons_zero, List.set_cons_succ, Int.toNat_natCast, Nat.reduceAdd, Nat.reduceMul, Int.reduceToNat, List.getElem_toArray, List.getElem_cons_zero, List.getElem_cons_succ, cells_agg, cells_int, cells_bool, cells_slice, cells_ptr, e1]
  first
    | (refine' DA_skip (i := 46) rfl (by kernel_rfl) (fun _ _ _ _ h => (kp _ _ _ h).elim) rfl ?_; simp only [List.set_cons_zero, List.set_cons_succ, Int.toNat_natCast, Nat.reduceAdd, Nat.reduceMul, Int.reduceToNat, List.getElem_toArray, List.getElem_cons_zero, List.getElem_cons_succ, cells_agg, cells_int, cells_bool, cells_slice, cells_ptr, e1])
    |
      first
        | (refine' DA_take (i := 46) rfl (by kernel_rfl) (fun _ _ _ _ h => (kp _ _ _ h).elim) rfl (QV_load1 (Ev.tmp rfl) Try.isAgg3 ?hm ?hv) ?_; (case hm => (repeat (first | exact List.Mem.head _ | assumption | exact List.mem_of_getElem? (by assumption) | exact mem_set_self (by assumption) | apply List.Mem.tail))); (case hv => (first | rfl | assumption)))
        | (refine' DA_take (i := 46) rfl (by kernel_rfl) (fun _ _ _ _ h => (kp _ _ _ h).elim) rfl (QV_loadR (Ev.tmp rfl) ?hp Try.isAgg3 ?hs ?hv) ?_; (case hs => (first | assumption | (refine' Sl.sub (by assumption) ?_; (repeat (first | with_reducible exact List.Sublist.refl _ | with_reducible apply List.Sublist.cons_cons | with_reducible apply List.Sublist.cons))))); (case hv => (first  | rfl | assumption)); (case hp => (first | rfl | omega)))
      simp only [List.set_cons_zero, List.set_cons_succ, Int.toNat_natCast, Nat.reduceAdd, Nat.reduceMul, Int.reduceToNat, List.getElem_toArray, List.getElem_cons_zero, List.getElem_cons_succ, cells_agg, cells_int, cells_bool, cells_slice, cells_ptr, e1]
  first
    | (refine' DA_skip (i := 47) rfl (by kernel_rfl) (fun _ _ _ _ h => (kp _ _ _ h).elim) rfl ?_; simp only [List.set_cons_zero, List.set_cons_succ, Int.toNat_natCast, Nat.reduceAdd, Nat.reduceMul, Int.reduceToNat, List.getElem_toArray, List.getElem_cons_zero, List.getElem_cons_succ, cells_agg, cells_int, cells_bool, cells_slice, cells_ptr, e1])
    |
      refine' DA_take (i := 47) rfl (by kernel_rfl) (fun _ _ _ _ h => (kp _ _ _ h).elim) rfl (QV_cvt Try.underlying3 Try.underlying30 rfl (Ev.tmp rfl) ?hr) ?_
      case hr => first | exact IntWalk.i64_in _ (by omega) | exact IntWalk.u64_in _ (by omega) | exact IntWalk.u8_in _ (by omega) | exact IntWalk.u32_in _ (by omega) | exact IntWalk.i64_quo _ _ (by omega) | exact IntWalk.u64_quo _ _ (by omega) | rfl
      simp only [List.set_cons_zero, List.set_cons_succ, Int.toNat_natCast, Nat.reduceAdd, Nat.reduceMul, Int.reduceToNat, List.getElem_toArray, List.getElem_cons_zero, List.getElem_cons_succ, cells_agg, cells_int, cells_bool, cells_slice, cells_ptr, e1]
  first
    | (refine' DA_skip (i := 48) rfl (by kernel_rfl) (fun _ _ _ _ h => (kp _ _ _ h).elim) rfl ?_; simp only [List.set_cons_zero, List.set_cons_succ, Int.toNat_natCast, Nat.reduceAdd, Nat.reduceMul, Int.reduceToNat, List.getElem_toArray, List.getElem_cons_zero, List.getElem_cons_succ, cells_agg, cells_int, cells_bool, cells_slice, cells_ptr, e1])
    |
      refine' DA_take (i := 48) rfl (by kernel_rfl) (fun _ _ _ _ h => (kp _ _ _ h).elim) rfl (QV_field (Ev.tmp rfl) (fld36_2 _ _)) ?_
      simp only [List.set_cons_zero, List.set_cons_succ, Int.toNat_natCast, Nat.reduceAdd, Nat.reduceMul, Int.reduceToNat, List.getElem_toArray, List.getElem_cons_zero, List.getElem_cons_succ, cells_agg, cells_int, cells_bool, cells_slice, cells_ptr, e1]
  first
    | (refine' DA_skip (i := 49) rfl (by kernel_rfl) (fun _ _ _ _ h => (kp _ _ _ h).elim) rfl ?_; simp only [List.set_cons_zero, List.set_cons_succ, Int.toNat_natCast, Nat.reduceAdd, Nat.reduceMul, Int.reduceToNat, List.getElem_toArray, List.getElem_cons_zero, List.getElem_cons_succ, cells_agg, cells_int, cells_bool, cells_slice, cells_ptr, e1])
    |
      first
        | (refine' DA_take (i := 49) rfl (by kernel_rfl) (fun _ _ _ _ h => (kp _ _ _ h).elim) rfl (QV_load1 (Ev.tmp rfl) Try.isAgg30 ?hm ?hv) ?_; (case hm => (repeat (first | exact List.Mem.head _ | assumption | exact List.mem_of_getElem? (by assumption) | exact mem_set_self (by assumption) | apply List.Mem.tail))); (case hv => (first | rfl | assumption)))
        | (refine' DA_take (i := 49) rfl (by kernel_rfl) (fun _ _ _ _ h => (kp _ _ _ h).elim) rfl (QV_loadR (Ev.tmp rfl) ?hp Try.isAgg30 ?hs ?hv) ?_; (case hs => (first | assumption | (refine' Sl.sub (by assumption) ?_; (repeat (first | with_reducible exact List.Sublist.refl _ | with_reducible apply List.Sublist.cons_cons | with_reducible apply List.Sublist.cons))))); (case hv => (first  | rfl | assumption)); (case hp => (first | rfl | omega)))
      simp only [List.set_cons_zero, List.set_cons_succ, Int.toNat_natCast, Nat.reduceAdd, Nat.reduceMul, Int.reduceToNat, List.getElem_toArray, List.getElem_cons_zero, List.getElem_cons_succ, cells_agg, cells_int, cells_bool, cells_slice, cells_ptr, e1]
  first
    | (refine' DA_skip (i := 50) rfl (by kernel_rfl) (fun _ _ _ _ h => (kp _ _ _ h).elim) rfl ?_; simp only [List.set_cons_zero, List.set_cons_succ, Int.toNat_natCast, Nat.reduceAdd, Nat.reduceMul, Int.reduceToNat, List.getElem_toArray, List.getElem_cons_zero, List.getElem_cons_succ, cells_agg, cells_int, cells_bool, cells_slice, cells_ptr, e1])
    |
      refine' DA_take (i := 50) rfl (by kernel_rfl) (fun _ _ _ _ h => (kp _ _ _ h).elim) rfl (QV_sub (Ev.tmp rfl) (Ev.tmp rfl) ?hr) ?_
      case hr => first | exact IntWalk.i64_in _ (by omega) | exact IntWalk.u64_in _ (by omega) | exact IntWalk.u8_in _ (by omega) | exact IntWalk.u32_in _ (by omega) | exact IntWalk.i64_quo _ _ (by omega) | exact IntWalk.u64_quo _ _ (by omega) | rfl
      simp only [List.set_cons_zero, List.set_cons_succ, Int.toNat_natCast, Nat.reduceAdd, Nat.reduceMul, Int.reduceToNat, List.getElem_toArray, List.getElem_cons_zero, List.getElem_cons_succ, cells_agg, cells_int, cells_bool, cells_slice, cells_ptr, e1]
  first
    | (refine' DA_skip (i := 51) rfl (by kernel_rfl) (fun _ _ _ _ h => (kp _ _ _ h).elim) rfl ?_; simp only [List.set_cons_zero, List.set_cons_succ, Int.toNat_natCast, Nat.reduceAdd, Nat.reduceMul, Int.reduceToNat, List.getElem_toArray, List.getElem_cons_zero, List.getElem_cons_succ, cells_agg, cells_int, cells_bool, cells_slice, cells_ptr, e1])
    |
      first
        | (refine' DA_take (i := 51) rfl (by kernel_rfl) (fun _ _ _ _ h => (kp _ _ _ h).elim) rfl (QV_gtr_y (Ev.tmp rfl) (Ev.tmp rfl) ?hb) ?_; case hb => omega)
        | (refine' DA_take (i := 51) rfl (by kernel_rfl) (fun _ _ _ _ h => (kp _ _ _ h).elim) rfl (QV_gtr_n (Ev.tmp rfl) (Ev.tmp rfl) ?hb) ?_; case hb => omega)
        | (refine' DA_take (i := 51) rfl (by kernel_rfl) (fun _ _ _ _ h => (kp _ _ _ h).elim) rfl (QV_gtr (Ev.tmp rfl) (Ev.tmp rfl)) ?_)
      simp only [List.set_cons_zero, List.set_cons_succ, Int.toNat_natCast, Nat.reduceAdd, Nat.reduceMul, Int.reduceToNat, List.getElem_toArray, List.getElem_cons_zero, List.getElem_cons_succ, cells_agg, cells_int, cells_bool, cells_slice, cells_ptr, e1]
  refine' DA_take (i := 52) rfl (by kernel_rfl) (fun _ _ _ _ h => (kp _ _ _ h).elim) rfl (QV_pick (Ev.tmp rfl) Ev.const (Ev.tmp rfl)) ?_
  simp only [if_true, if_false, Bool.false_eq_true, reduceIte, List.set_cons_zero, List.set_cons_succ, Int.toNat_natCast, Nat.reduceAdd, Nat.reduceMul, Int.reduceToNat, List.getElem_toArray, List.getElem_cons_zero, List.getElem_cons_succ, cells_agg, cells_int, cells_bool, cells_slice, cells_ptr, e1]
  refine DA_done (by kernel_rfl) ?_
  try simp only [List.nil_append, List.cons_append]
  refine hN3 _ _ ?_
  try clear hN3 N3
  refine HC_no rfl rfl ?_
  refine HC_skip ?_
  refine hN2 _ _ ?_
  try clear hN2 N2
  refine HC_seq fun N5 hN5 => ?_
  refine HC_region ?_
  refine' HL_q rfl rfl (QV_field (Ev.tmp rfl) (fld36_2 _ _)) ?_
  simp only [List.set_cons_zero, List.set_cons_succ, Int.toNat_natCast, Nat.reduceAdd, Nat.reduceMul, Int.reduceToNat, List.getElem_toArray, List.getElem_cons_zero, List.getElem_cons_succ, cells_agg, cells_int, cells_bool, cells_slice, cells_ptr, e1]
  first
    | (refine' HL_q rfl rfl (QV_load1 (Ev.tmp rfl) Try.isAgg30 ?hm ?hv) ?_; (case hm => (repeat (first | exact List.Mem.head _ | assumption | exact List.mem_of_getElem? (by assumption) | exact mem_set_self (by assumption) | apply List.Mem.tail))); (case hv => (first | rfl | assumption)))
    | (refine' HL_q rfl rfl (QV_loadR (Ev.tmp rfl) ?hp Try.isAgg30 ?hs ?hv) ?_; (case hs => (first | assumption | (refine' Sl.sub (by assumption) ?_; (repeat (first | with_reducible exact List.Sublist.refl _ | with_reducible apply List.Sublist.cons_cons | with_reducible apply List.Sublist.cons))))); (case hv => (first  | rfl | assumption)); (case hp => (first | rfl | omega)))
  simp only [List.set_cons_zero, List.set_cons_succ, Int.toNat_natCast, Nat.reduceAdd, Nat.reduceMul, Int.reduceToNat, List.getElem_toArray, List.getElem_cons_zero, List.getElem_cons_succ, cells_agg, cells_int, cells_bool, cells_slice, cells_ptr, e1]
  refine' HL_q rfl rfl (QV_cvt Try.underlying30 Try.underlying3 rfl (Ev.tmp rfl) ?hr) ?_
  case hr => first | exact IntWalk.i64_in _ (by omega) | exact IntWalk.u64_in _ (by omega) | exact IntWalk.u8_in _ (by omega) | exact IntWalk.u32_in _ (by omega) | exact IntWalk.i64_quo _ _ (by omega) | exact IntWalk.u64_quo _ _ (by omega) | rfl
  simp only [List.set_cons_zero, List.set_cons_succ, Int.toNat_natCast, Nat.reduceAdd, Nat.reduceMul, Int.reduceToNat, List.getElem_toArray, List.getElem_cons_zero, List.getElem_cons_succ, cells_agg, cells_int, cells_bool, cells_slice, cells_ptr, e1]
  refine' HL_q rfl rfl (QV_field (Ev.tmp rfl) (fld36_2 _ _)) ?_
  simp only [List.set_cons_zero, List.set_cons_succ, Int.toNat_natCast, Nat.reduceAdd, Nat.reduceMul, Int.reduceToNat, List.getElem_toArray, List.getElem_cons_zero, List.getElem_cons_succ, cells_agg, cells_int, cells_bool, cells_slice, cells_ptr, e1]
  first
    | (refine' HL_q rfl rfl (QV_load1 (Ev.tmp rfl) Try.isAgg30 ?hm ?hv) ?_; (case hm => (repeat (first | exact List.Mem.head _ | assumption | exact List.mem_of_getElem? (by assumption) | exact mem_set_self (by assumption) | apply List.Mem.tail))); (case hv => (first | rfl | assumption)))
    | (refine' HL_q rfl rfl (QV_loadR (Ev.tmp rfl) ?hp Try.isAgg30 ?hs ?hv) ?_; (case hs => (first | assumption | (refine' Sl.sub (by assumption) ?_; (repeat (first | with_reducible exact List.Sublist.refl _ | with_reducible apply List.Sublist.cons_cons | with_reducible apply List.Sublist.cons))))); (case hv => (first  | rfl | assumption)); (case hp => (first | rfl | omega)))
  simp only [List.set_cons_zero, List.set_cons_succ, Int.toNat_natCast, Nat.reduceAdd, Nat.reduceMul, Int.reduceToNat, List.getElem_toArray, List.getElem_cons_zero, List.getElem_cons_succ, cells_agg, cells_int, cells_bool, cells_slice, cells_ptr, e1]
  refine' HL_q rfl rfl (QV_cvt Try.underlying30 Try.underlying3 rfl (Ev.tmp rfl) ?hr) ?_
  case hr => first | exact IntWalk.i64_in _ (by omega) | exact IntWalk.u64_in _ (by omega) | exact IntWalk.u8_in _ (by omega) | exact IntWalk.u32_in _ (by omega) | exact IntWalk.i64_quo _ _ (by omega) | exact IntWalk.u64_quo _ _ (by omega) | rfl
  simp only [List.set_cons_zero, List.set_cons_succ, Int.toNat_natCast, Nat.reduceAdd, Nat.reduceMul, Int.reduceToNat, List.getElem_toArray, List.getElem_cons_zero, List.getElem_cons_succ, cells_agg, cells_int, cells_bool, cells_slice, cells_ptr, e1]
  refine' HL_q rfl rfl (QV_field (Ev.tmp rfl) (fld36_6 _ _)) ?_
  simp only [List.set_cons_zero, List.set_cons_succ, Int.toNat_natCast, Nat.reduceAdd, Nat.reduceMul, Int.reduceToNat, List.getElem_toArray, List.getElem_cons_zero, List.getElem_cons_succ, cells_agg, cells_int, cells_bool, cells_slice, cells_ptr, e1]
  first
    | (refine' HL_q rfl rfl (QV_load1 (Ev.tmp rfl) Try.isAgg22 ?hm ?hv) ?_; (case hm => (repeat (first | exact List.Mem.head _ | assumption | exact List.mem_of_getElem? (by assumption) | exact mem_set_self (by assumption) | apply List.Mem.tail))); (case hv => (first | rfl | assumption)))
    | (refine' HL_q rfl rfl (QV_loadR (Ev.tmp rfl) ?hp Try.isAgg22 ?hs ?hv) ?_; (case hs => (first | assumption | (refine' Sl.sub (by assumption) ?_; (repeat (first | with_reducible exact List.Sublist.refl _ | with_reducible apply List.Sublist.cons_cons | with_reducible apply List.Sublist.cons))))); (case hv => (first  | rfl | assumption)); (case hp => (first | rfl | omega)))
  simp only [List.set_cons_zero, List.set_cons_succ, Int.toNat_natCast, Nat.reduceAdd, Nat.reduceMul, Int.reduceToNat, List.getElem_toArray, List.getElem_cons_zero, List.getElem_cons_succ, cells_agg, cells_int, cells_bool, cells_slice, cells_ptr, e1]
  refine' HL_q rfl rfl (QV_len (Ev.tmp rfl) Try.underlying22) ?_
  simp only [List.set_cons_zero, List.set_cons_succ, Int.toNat_natCast, Nat.reduceAdd, Nat.reduceMul, Int.reduceToNat, List.getElem_toArray, List.getElem_cons_zero, List.getElem_cons_succ, cells_agg, cells_int, cells_bool, cells_slice, cells_ptr, e1]
  refine' HL_q rfl rfl (QV_add (Ev.tmp rfl) (Ev.tmp rfl) ?hr) ?_
  case hr => first | exact IntWalk.i64_in _ (by omega) | exact IntWalk.u64_in _ (by omega) | exact IntWalk.u8_in _ (by omega) | exact IntWalk.u32_in _ (by omega) | exact IntWalk.i64_quo _ _ (by omega) | exact IntWalk.u64_quo _ _ (by omega) | rfl
  simp only [List.set_cons_zero, List.set_cons_succ, Int.toNat_natCast, Nat.reduceAdd, Nat.reduceMul, Int.reduceToNat, List.getElem_toArray, List.getElem_cons_zero, List.getElem_cons_succ, cells_agg, cells_int, cells_bool, cells_slice, cells_ptr, e1]
  refine' HL_q rfl rfl (QV_buildS (EvL.cons (Ev.tmp rfl) (EvL.cons (Ev.tmp rfl) EvL.nil)) Try.zeroValue107 Try.underlying107 (plc107 _ Try.underlying107) rfl) ?_
  simp only [putAll, offOf, List.map_cons, List.map_nil, List.zip_cons_cons, List.zip_nil_left, List.zip_nil_right, List.getElem?_cons_zero, List.getElem?_cons_succ, List.set_cons_zero, List.set_cons_succ, Int.toNat_natCast, Nat.reduceAdd, Nat.reduceMul, Int.reduceToNat, List.getElem_toArray, List.getElem_cons_zero, List.getElem_cons_succ, cells_agg, cells_int, cells_bool, cells_slice, cells_ptr, e1]
  refine' HL_s rfl rfl (SO_alloc Try.zeroValue107 rfl) ?_
  rintro _ _ ⟨g6, rfl, rfl⟩
  simp only [List.set_cons_zero, List.set_cons_succ, Int.toNat_natCast, Nat.reduceAdd, Nat.reduceMul, Int.reduceToNat, List.getElem_toArray, List.getElem_cons_zero, List.getElem_cons_succ, cells_agg, cells_int, cells_bool, cells_slice, cells_ptr, e1]
  refine' HL_s rfl rfl (SO_store (Ev.tmp rfl) (Ev.tmp rfl) Try.sizeOf107 ?hvs ?hn ?h1 ?hm ?hfit) ?_
  case hvs => rfl
  case hn => rfl
  case h1 => rfl
  case hm => (repeat (first | with_reducible exact Upd.head | exact Upd.at_ (by assumption) | exact Upd.set (by assumption) | apply Upd.tail))
  case hfit => simp
  rintro _ _ ⟨rfl, rfl⟩
  simp only [spl, List.set_cons_zero, List.set_cons_succ, List.toList_toArray, List.take_succ_cons, List.take_zero, List.drop_succ_cons, List.drop_zero, List.nil_append, List.cons_append, List.append_nil, List.length_cons, List.length_nil, Nat.zero_add, Nat.reduceAdd, List.take_nil, List.drop_nil]
  refine HL_nil ?_
  refine hN5 _ _ ?_
  try clear hN5 N5
  refine HC_seq fun N6 hN6 => ?_
  refine HC_region ?_
  refine' HL_q rfl rfl (QV_move (Ev.tmp rfl)) ?_
  simp only [List.set_cons_zero, List.set_cons_succ, Int.toNat_natCast, Nat.reduceAdd, Nat.reduceMul, Int.reduceToNat, List.getElem_toArray, List.getElem_cons_zero, List.getElem_cons_succ, cells_agg, cells_int, cells_bool, cells_slice, cells_ptr, e1]
  refine' HL_q rfl rfl (QV_nil (Ev.tmp rfl)) ?_
  simp only [List.set_cons_zero, List.set_cons_succ, Int.toNat_natCast, Nat.reduceAdd, Nat.reduceMul, Int.reduceToNat, List.getElem_toArray, List.getElem_cons_zero, List.getElem_cons_succ, cells_agg, cells_int, cells_bool, cells_slice, cells_ptr, e1]
  refine' HL_q rfl rfl (QV_field (Ev.tmp rfl) (fld105_3 _ _)) ?_
  simp only [List.set_cons_zero, List.set_cons_succ, Int.toNat_natCast, Nat.reduceAdd, Nat.reduceMul, Int.reduceToNat, List.getElem_toArray, List.getElem_cons_zero, List.getElem_cons_succ, cells_agg, cells_int, cells_bool, cells_slice, cells_ptr, e1]
  first
    | (refine' HL_q rfl rfl (QV_load1 (Ev.tmp rfl) Try.isAgg22 ?hm ?hv) ?_; (case hm => (repeat (first | exact List.Mem.head _ | assumption | exact List.mem_of_getElem? (by assumption) | exact mem_set_self (by assumption) | apply List.Mem.tail))); (case hv => (first | rfl | assumption)))
    | (refine' HL_q rfl rfl (QV_loadR (Ev.tmp rfl) ?hp Try.isAgg22 ?hs ?hv) ?_; (case hs => (first | assumption | (refine' Sl.sub (by assumption) ?_; (repeat (first | with_reducible exact List.Sublist.refl _ | with_reducible apply List.Sublist.cons_cons | with_reducible apply List.Sublist.cons))))); (case hv => (first  | rfl | assumption)); (case hp => (first | rfl | omega)))
  simp only [List.set_cons_zero, List.set_cons_succ, Int.toNat_natCast, Nat.reduceAdd, Nat.reduceMul, Int.reduceToNat, List.getElem_toArray, List.getElem_cons_zero, List.getElem_cons_succ, cells_agg, cells_int, cells_bool, cells_slice, cells_ptr, e1]
  refine' HL_q rfl rfl (QV_len (Ev.tmp rfl) Try.underlying22) ?_
  simp only [List.set_cons_zero, List.set_cons_succ, Int.toNat_natCast, Nat.reduceAdd, Nat.reduceMul, Int.reduceToNat, List.getElem_toArray, List.getElem_cons_zero, List.getElem_cons_succ, cells_agg, cells_int, cells_bool, cells_slice, cells_ptr, e1]
  refine' HL_q rfl rfl (QV_buildS (EvL.cons Ev.const (EvL.cons (Ev.tmp rfl) EvL.nil)) Try.zeroValue107 Try.underlying107 (plc107 _ Try.underlying107) rfl) ?_
  simp only [putAll, offOf, List.map_cons, List.map_nil, List.zip_cons_cons, List.zip_nil_left, List.zip_nil_right, List.getElem?_cons_zero, List.getElem?_cons_succ, List.set_cons_zero, List.set_cons_succ, Int.toNat_natCast, Nat.reduceAdd, Nat.reduceMul, Int.reduceToNat, List.getElem_toArray, List.getElem_cons_zero, List.getElem_cons_succ, cells_agg, cells_int, cells_bool, cells_slice, cells_ptr, e1]
  refine' HL_s rfl rfl (SO_alloc Try.zeroValue107 rfl) ?_
  rintro _ _ ⟨g7, rfl, rfl⟩
  simp only [List.set_cons_zero, List.set_cons_succ, Int.toNat_natCast, Nat.reduceAdd, Nat.reduceMul, Int.reduceToNat, List.getElem_toArray, List.getElem_cons_zero, List.getElem_cons_succ, cells_agg, cells_int, cells_bool, cells_slice, cells_ptr, e1]
  refine' HL_s rfl rfl (SO_store (Ev.tmp rfl) (Ev.tmp rfl) Try.sizeOf107 ?hvs ?hn ?h1 ?hm ?hfit) ?_
  case hvs => rfl
  case hn => rfl
  case h1 => rfl
  case hm => (repeat (first | with_reducible exact Upd.head | exact Upd.at_ (by assumption) | exact Upd.set (by assumption) | apply Upd.tail))
  case hfit => simp
  rintro _ _ ⟨rfl, rfl⟩
  simp only [spl, List.set_cons_zero, List.set_cons_succ, List.toList_toArray, List.take_succ_cons, List.take_zero, List.drop_succ_cons, List.drop_zero, List.nil_append, List.cons_append, List.append_nil, List.length_cons, List.length_nil, Nat.zero_add, Nat.reduceAdd, List.take_nil, List.drop_nil]
  refine HL_nil ?_
  refine hN6 _ _ ?_
  try clear hN6 N6
  have e2 : decide (¬ ((0 : Int) = 0 ∧ ((off + k : Nat) : Int) = (xs.length : Int))) = decide (¬ (off + k = xs.length)) := by
    congr 1; simp; omega
  cases fin
  · skip
    refine HC_seq fun N7 hN7 => ?_
    refine HC_seq fun N8 hN8 => ?_
    refine HC_draw 38 [] _ mixed rfl ?_
    refine' DA_take (i := 0) rfl (by kernel_rfl) (fun _ _ _ _ h => (kp _ _ _ h).elim) rfl (QV_field (Ev.tmp rfl) (fld36_6 _ _)) ?_
    simp only [List.set_cons_zero, List.set_cons_succ, Int.toNat_natCast, Nat.reduceAdd, Nat.reduceMul, Int.reduceToNat, List.getElem_toArray, List.getElem_cons_zero, List.getElem_cons_succ, cells_agg, cells_int, cells_bool, cells_slice, cells_ptr, e1, decide_true]
    first
      | (refine' DA_take (i := 1) rfl (by kernel_rfl) (fun _ _ _ _ h => (kp _ _ _ h).elim) rfl (QV_load1 (Ev.tmp rfl) Try.isAgg22 ?hm ?hv) ?_; (case hm => (repeat (first | exact List.Mem.head _ | assumption | exact List.mem_of_getElem? (by assumption) | exact mem_set_self (by assumption) | apply List.Mem.tail))); (case hv => (first | rfl | assumption)))
      | (refine' DA_take (i := 1) rfl (by kernel_rfl) (fun _ _ _ _ h => (kp _ _ _ h).elim) rfl (QV_loadR (Ev.tmp rfl) ?hp Try.isAgg22 ?hs ?hv) ?_; (case hs => (first | assumption | (refine' Sl.sub (by assumption) ?_; (repeat (first | with_reducible exact List.Sublist.refl _ | with_reducible apply List.Sublist.cons_cons | with_reducible apply List.Sublist.cons))))); (case hv => (first  | rfl | assumption)); (case hp => (first | rfl | omega)))
    simp only [List.set_cons_zero, List.set_cons_succ, Int.toNat_natCast, Nat.reduceAdd, Nat.reduceMul, Int.reduceToNat, List.getElem_toArray, List.getElem_cons_zero, List.getElem_cons_succ, cells_agg, cells_int, cells_bool, cells_slice, cells_ptr, e1, decide_true]
    refine' DA_take (i := 2) rfl (by kernel_rfl) (fun _ _ _ _ h => (kp _ _ _ h).elim) rfl (QV_move (Ev.tmp rfl)) ?_
    simp only [List.set_cons_zero, List.set_cons_succ, Int.toNat_natCast, Nat.reduceAdd, Nat.reduceMul, Int.reduceToNat, List.getElem_toArray, List.getElem_cons_zero, List.getElem_cons_succ, cells_agg, cells_int, cells_bool, cells_slice, cells_ptr, e1, decide_true]
    refine' DA_take (i := 3) rfl (by kernel_rfl) (fun _ _ _ _ h => (kp _ _ _ h).elim) rfl (QV_nil (Ev.tmp rfl)) ?_
    simp only [List.set_cons_zero, List.set_cons_succ, Int.toNat_natCast, Nat.reduceAdd, Nat.reduceMul, Int.reduceToNat, List.getElem_toArray, List.getElem_cons_zero, List.getElem_cons_succ, cells_agg, cells_int, cells_bool, cells_slice, cells_ptr, e1, decide_true]
    refine' DA_take (i := 4) rfl (by kernel_rfl) (fun _ _ _ _ h => (kp _ _ _ h).elim) rfl (QV_field (Ev.tmp rfl) (fld105_3 _ _)) ?_
    simp only [List.set_cons_zero, List.set_cons_succ, Int.toNat_natCast, Nat.reduceAdd, Nat.reduceMul, Int.reduceToNat, List.getElem_toArray, List.getElem_cons_zero, List.getElem_cons_succ, cells_agg, cells_int, cells_bool, cells_slice, cells_ptr, e1, decide_true]
    first
      | (refine' DA_take (i := 5) rfl (by kernel_rfl) (fun _ _ _ _ h => (kp _ _ _ h).elim) rfl (QV_load1 (Ev.tmp rfl) Try.isAgg22 ?hm ?hv) ?_; (case hm => (repeat (first | exact List.Mem.head _ | assumption | exact List.mem_of_getElem? (by assumption) | exact mem_set_self (by assumption) | apply List.Mem.tail))); (case hv => (first | rfl | assumption)))
      | (refine' DA_take (i := 5) rfl (by kernel_rfl) (fun _ _ _ _ h => (kp _ _ _ h).elim) rfl (QV_loadR (Ev.tmp rfl) ?hp Try.isAgg22 ?hs ?hv) ?_; (case hs => (first | assumption | (refine' Sl.sub (by assumption) ?_; (repeat (first | with_reducible exact List.Sublist.refl _ | with_reducible apply List.Sublist.cons_cons | with_reducible apply List.Sublist.cons))))); (case hv => (first  | rfl | assumption)); (case hp => (first | rfl | omega)))
    simp only [List.set_cons_zero, List.set_cons_succ, Int.toNat_natCast, Nat.reduceAdd, Nat.reduceMul, Int.reduceToNat, List.getElem_toArray, List.getElem_cons_zero, List.getElem_cons_succ, cells_agg, cells_int, cells_bool, cells_slice, cells_ptr, e1, decide_true]
    refine' DA_take (i := 6) rfl (by kernel_rfl) (fun _ _ _ _ h => (kp _ _ _ h).elim) rfl (QV_field (Ev.tmp rfl) (fld107_0 _ _)) ?_
    simp only [List.set_cons_zero, List.set_cons_succ, Int.toNat_natCast, Nat.reduceAdd, Nat.reduceMul, Int.reduceToNat, List.getElem_toArray, List.getElem_cons_zero, List.getElem_cons_succ, cells_agg, cells_int, cells_bool, cells_slice, cells_ptr, e1, decide_true]
    first
      | (refine' DA_take (i := 7) rfl (by kernel_rfl) (fun _ _ _ _ h => (kp _ _ _ h).elim) rfl (QV_load1 (Ev.tmp rfl) Try.isAgg3 ?hm ?hv) ?_; (case hm => (repeat (first | exact List.Mem.head _ | assumption | exact List.mem_of_getElem? (by assumption) | exact mem_set_self (by assumption) | apply List.Mem.tail))); (case hv => (first | rfl | assumption)))
      | (refine' DA_take (i := 7) rfl (by kernel_rfl) (fun _ _ _ _ h => (kp _ _ _ h).elim) rfl (QV_loadR (Ev.tmp rfl) ?hp Try.isAgg3 ?hs ?hv) ?_; (case hs => (first | assumption | (refine' Sl.sub (by assumption) ?_; (repeat (first | with_reducible exact List.Sublist.refl _ | with_reducible apply List.Sublist.cons_cons | with_reducible apply List.Sublist.cons))))); (case hv => (first  | rfl | assumption)); (case hp => (first | rfl | omega)))
    simp only [List.set_cons_zero, List.set_cons_succ, Int.toNat_natCast, Nat.reduceAdd, Nat.reduceMul, Int.reduceToNat, List.getElem_toArray, List.getElem_cons_zero, List.getElem_cons_succ, cells_agg, cells_int, cells_bool, cells_slice, cells_ptr, e1, decide_true]
    refine' DA_take (i := 8) rfl (by kernel_rfl) (fun _ _ _ _ h => (kp _ _ _ h).elim) rfl (QV_field (Ev.tmp rfl) (fld107_1 _ _)) ?_
    simp only [List.set_cons_zero, List.set_cons_succ, Int.toNat_natCast, Nat.reduceAdd, Nat.reduceMul, Int.reduceToNat, List.getElem_toArray, List.getElem_cons_zero, List.getElem_cons_succ, cells_agg, cells_int, cells_bool, cells_slice, cells_ptr, e1, decide_true]
    first
      | (refine' DA_take (i := 9) rfl (by kernel_rfl) (fun _ _ _ _ h => (kp _ _ _ h).elim) rfl (QV_load1 (Ev.tmp rfl) Try.isAgg3 ?hm ?hv) ?_; (case hm => (repeat (first | exact List.Mem.head _ | assumption | exact List.mem_of_getElem? (by assumption) | exact mem_set_self (by assumption) | apply List.Mem.tail))); (case hv => (first | rfl | assumption)))
      | (refine' DA_take (i := 9) rfl (by kernel_rfl) (fun _ _ _ _ h => (kp _ _ _ h).elim) rfl (QV_loadR (Ev.tmp rfl) ?hp Try.isAgg3 ?hs ?hv) ?_; (case hs => (first | assumption | (refine' Sl.sub (by assumption) ?_; (repeat (first | with_reducible exact List.Sublist.refl _ | with_reducible apply List.Sublist.cons_cons | with_reducible apply List.Sublist.cons))))); (case hv => (first  | rfl | assumption)); (case hp => (first | rfl | omega)))
    simp only [List.set_cons_zero, List.set_cons_succ, Int.toNat_natCast, Nat.reduceAdd, Nat.reduceMul, Int.reduceToNat, List.getElem_toArray, List.getElem_cons_zero, List.getElem_cons_succ, cells_agg, cells_int, cells_bool, cells_slice, cells_ptr, e1, decide_true]
    refine' DA_take (i := 10) rfl (by kernel_rfl) (fun _ _ _ _ h => (kp _ _ _ h).elim) rfl (QV_cut (Ev.tmp rfl) (Ev.tmp rfl) (Ev.tmp rfl) Try.underlying22 Try.sizeOf5 ?h0 ?h1 ?h2) ?_
    case h0 => omega
    case h1 => omega
    case h2 => omega
    simp only [List.set_cons_zero, List.set_cons_succ, Int.toNat_natCast, Nat.reduceAdd, Nat.reduceMul, Int.reduceToNat, List.getElem_toArray, List.getElem_cons_zero, List.getElem_cons_succ, cells_agg, cells_int, cells_bool, cells_slice, cells_ptr, e1, decide_true]
    refine DA_one (i := 11) (by kernel_rfl) ?_
    refine' DB_call (i := 11) rfl rfl en111 (call_fn (EvL.cons (Ev.tmp rfl) (EvL.cons (Ev.tmp rfl) EvL.nil)).evs) ((equal_bytes (Sl.sub hd (by repeat (first | exact List.Sublist.refl _ | apply List.Sublist.cons))) (Sl.sub hcut (by repeat (first | exact List.Sublist.refl _ | apply List.Sublist.cons))) hkl (by rw [← hkl]; omega))) ?_
    rintro _ _ ⟨rfl, rfl⟩
    refine ⟨_, rfl, ?_⟩
    simp only [List.set_cons_zero, List.set_cons_succ, Int.toNat_natCast, Nat.reduceAdd, Nat.reduceMul, Int.reduceToNat, List.getElem_toArray, List.getElem_cons_zero, List.getElem_cons_succ, cells_agg, cells_int, cells_bool, cells_slice, cells_ptr, e1, decide_true]
    refine' DA_take (i := 12) rfl (by kernel_rfl) (fun _ _ _ _ h => (kp _ _ _ h).elim) rfl (QV_un (Ev.tmp rfl) ?hr) ?_
    case hr => intro w; first | (go_simp; done) | (go_simp; rfl)
    simp only [List.set_cons_zero, List.set_cons_succ, Int.toNat_natCast, Nat.reduceAdd, Nat.reduceMul, Int.reduceToNat, List.getElem_toArray, List.getElem_cons_zero, List.getElem_cons_succ, cells_agg, cells_int, cells_bool, cells_slice, cells_ptr, e1, decide_true]
    refine' DA_take (i := 13) rfl (by kernel_rfl) (fun _ _ _ _ h => (kp _ _ _ h).elim) rfl (QV_move (Ev.tmp rfl)) ?_
    simp only [List.set_cons_zero, List.set_cons_succ, Int.toNat_natCast, Nat.reduceAdd, Nat.reduceMul, Int.reduceToNat, List.getElem_toArray, List.getElem_cons_zero, List.getElem_cons_succ, cells_agg, cells_int, cells_bool, cells_slice, cells_ptr, e1, decide_true]
    first
      | (refine' DA_skip (i := 14) rfl (by kernel_rfl) (fun _ _ _ _ h => (kp _ _ _ h).elim) rfl ?_; simp only [List.set_cons_zero, List.set_cons_succ, Int.toNat_natCast, Nat.reduceAdd, Nat.reduceMul, Int.reduceToNat, List.getElem_toArray, List.getElem_cons_zero, List.getElem_cons_succ, cells_agg, cells_int, cells_bool, cells_slice, cells_ptr, e1, decide_true])
      |
        refine' DA_take (i := 14) rfl (by kernel_rfl) (fun _ _ _ _ h => (kp _ _ _ h).elim) rfl (QV_field (Ev.tmp rfl) (fld36_5 _ _)) ?_
        simp only [List.set_cons_zero, List.set_cons_succ, Int.toNat_natCast, Nat.reduceAdd, Nat.reduceMul, Int.reduceToNat, List.getElem_toArray, List.getElem_cons_zero, List.getElem_cons_succ, cells_agg, cells_int, cells_bool, cells_slice, cells_ptr, e1, decide_true]
    first
      | (refine' DA_skip (i := 15) rfl (by kernel_rfl) (fun _ _ _ _ h => (kp _ _ _ h).elim) rfl ?_; simp only [List.set_cons_zero, List.set_cons_succ, Int.toNat_natCast, Nat.reduceAdd, Nat.reduceMul, Int.reduceToNat, List.getElem_toArray, List.getElem_cons_zero, List.getElem_cons_succ, cells_agg, cells_int, cells_bool, cells_slice, cells_ptr, e1, decide_true])
      |
        first
          | (refine' DA_take (i := 15) rfl (by kernel_rfl) (fun _ _ _ _ h => (kp _ _ _ h).elim) rfl (QV_load1 (Ev.tmp rfl) Try.isAgg4 ?hm ?hv) ?_; (case hm => (repeat (first | exact List.Mem.head _ | assumption | exact List.mem_of_getElem? (by assumption) | exact mem_set_self (by assumption) | apply List.Mem.tail))); (case hv => (first | rfl | assumption)))
          | (refine' DA_take (i := 15) rfl (by kernel_rfl) (fun _ _ _ _ h => (kp _ _ _ h).elim) rfl (QV_loadR (Ev.tmp rfl) ?hp Try.isAgg4 ?hs ?hv) ?_; (case hs => (first | assumption | (refine' Sl.sub (by assumption) ?_; (repeat (first | with_reducible exact List.Sublist.refl _ | with_reducible apply List.Sublist.cons_cons | with_reducible apply List.Sublist.cons))))); (case hv => (first  | rfl | assumption)); (case hp => (first | rfl | omega)))
        simp only [List.set_cons_zero, List.set_cons_succ, Int.toNat_natCast, Nat.reduceAdd, Nat.reduceMul, Int.reduceToNat, List.getElem_toArray, List.getElem_cons_zero, List.getElem_cons_succ, cells_agg, cells_int, cells_bool, cells_slice, cells_ptr, e1, decide_true]
    first
      | (refine' DA_skip (i := 16) rfl (by kernel_rfl) (fun _ _ _ _ h => (kp _ _ _ h).elim) rfl ?_; simp only [List.set_cons_zero, List.set_cons_succ, Int.toNat_natCast, Nat.reduceAdd, Nat.reduceMul, Int.reduceToNat, List.getElem_toArray, List.getElem_cons_zero, List.getElem_cons_succ, cells_agg, cells_int, cells_bool, cells_slice, cells_ptr, e1, decide_true])
      |
        refine' DA_take (i := 16) rfl (by kernel_rfl) (fun _ _ _ _ h => (kp _ _ _ h).elim) rfl (QV_move (Ev.tmp rfl)) ?_
        simp only [List.set_cons_zero, List.set_cons_succ, Int.toNat_natCast, Nat.reduceAdd, Nat.reduceMul, Int.reduceToNat, List.getElem_toArray, List.getElem_cons_zero, List.getElem_cons_succ, cells_agg, cells_int, cells_bool, cells_slice, cells_ptr, e1, decide_true]
    first
      | (refine' DA_skip (i := 17) rfl (by kernel_rfl) (fun _ _ _ _ h => (kp _ _ _ h).elim) rfl ?_; simp only [List.set_cons_zero, List.set_cons_succ, Int.toNat_natCast, Nat.reduceAdd, Nat.reduceMul, Int.reduceToNat, List.getElem_toArray, List.getElem_cons_zero, List.getElem_cons_succ, cells_agg, cells_int, cells_bool, cells_slice, cells_ptr, e1, decide_true])
      |
        refine' DA_take (i := 17) rfl (by kernel_rfl) (fun _ _ _ _ h => (kp _ _ _ h).elim) rfl (QV_move (Ev.tmp rfl)) ?_
        simp only [List.set_cons_zero, List.set_cons_succ, Int.toNat_natCast, Nat.reduceAdd, Nat.reduceMul, Int.reduceToNat, List.getElem_toArray, List.getElem_cons_zero, List.getElem_cons_succ, cells_agg, cells_int, cells_bool, cells_slice, cells_ptr, e1, decide_true]
    first
      | (refine' DA_skip (i := 18) rfl (by kernel_rfl) (fun _ _ _ _ h => (kp _ _ _ h).elim) rfl ?_; simp only [List.set_cons_zero, List.set_cons_succ, Int.toNat_natCast, Nat.reduceAdd, Nat.reduceMul, Int.reduceToNat, List.getElem_toArray, List.getElem_cons_zero, List.getElem_cons_succ, cells_agg, cells_int, cells_bool, cells_slice, cells_ptr, e1, decide_true])
      |
        refine' DA_take (i := 18) rfl (by kernel_rfl) (fun _ _ _ _ h => (kp _ _ _ h).elim) rfl (QV_nil (Ev.tmp rfl)) ?_
        simp only [List.set_cons_zero, List.set_cons_succ, Int.toNat_natCast, Nat.reduceAdd, Nat.reduceMul, Int.reduceToNat, List.getElem_toArray, List.getElem_cons_zero, List.getElem_cons_succ, cells_agg, cells_int, cells_bool, cells_slice, cells_ptr, e1, decide_true]
    first
      | (refine' DA_skip (i := 19) rfl (by kernel_rfl) (fun _ _ _ _ h => (kp _ _ _ h).elim) rfl ?_; simp only [List.set_cons_zero, List.set_cons_succ, Int.toNat_natCast, Nat.reduceAdd, Nat.reduceMul, Int.reduceToNat, List.getElem_toArray, List.getElem_cons_zero, List.getElem_cons_succ, cells_agg, cells_int, cells_bool, cells_slice, cells_ptr, e1, decide_true])
      |
        refine' DA_take (i := 19) rfl (by kernel_rfl) (fun _ _ _ _ h => (kp _ _ _ h).elim) rfl (QV_field (Ev.tmp rfl) (fld105_7 _ _)) ?_
        simp only [List.set_cons_zero, List.set_cons_succ, Int.toNat_natCast, Nat.reduceAdd, Nat.reduceMul, Int.reduceToNat, List.getElem_toArray, List.getElem_cons_zero, List.getElem_cons_succ, cells_agg, cells_int, cells_bool, cells_slice, cells_ptr, e1, decide_true]
    first
      | (refine' DA_skip (i := 20) rfl (by kernel_rfl) (fun _ _ _ _ h => (kp _ _ _ h).elim) rfl ?_; simp only [List.set_cons_zero, List.set_cons_succ, Int.toNat_natCast, Nat.reduceAdd, Nat.reduceMul, Int.reduceToNat, List.getElem_toArray, List.getElem_cons_zero, List.getElem_cons_succ, cells_agg, cells_int, cells_bool, cells_slice, cells_ptr, e1, decide_true])
      |
        first
          | (refine' DA_take (i := 20) rfl (by kernel_rfl) (fun _ _ _ _ h => (kp _ _ _ h).elim) rfl (QV_load1 (Ev.tmp rfl) Try.isAgg4 ?hm ?hv) ?_; (case hm => (repeat (first | exact List.Mem.head _ | assumption | exact List.mem_of_getElem? (by assumption) | exact mem_set_self (by assumption) | apply List.Mem.tail))); (case hv => (first | rfl | assumption)))
          | (refine' DA_take (i := 20) rfl (by kernel_rfl) (fun _ _ _ _ h => (kp _ _ _ h).elim) rfl (QV_loadR (Ev.tmp rfl) ?hp Try.isAgg4 ?hs ?hv) ?_; (case hs => (first | assumption | (refine' Sl.sub (by assumption) ?_; (repeat (first | with_reducible exact List.Sublist.refl _ | with_reducible apply List.Sublist.cons_cons | with_reducible apply List.Sublist.cons))))); (case hv => (first  | rfl | assumption)); (case hp => (first | rfl | omega)))
        simp only [List.set_cons_zero, List.set_cons_succ, Int.toNat_natCast, Nat.reduceAdd, Nat.reduceMul, Int.reduceToNat, List.getElem_toArray, List.getElem_cons_zero, List.getElem_cons_succ, cells_agg, cells_int, cells_bool, cells_slice, cells_ptr, e1, decide_true]
    first
      | (refine' DA_skip (i := 21) rfl (by kernel_rfl) (fun _ _ _ _ h => (kp _ _ _ h).elim) rfl ?_; simp only [List.set_cons_zero, List.set_cons_succ, Int.toNat_natCast, Nat.reduceAdd, Nat.reduceMul, Int.reduceToNat, List.getElem_toArray, List.getElem_cons_zero, List.getElem_cons_succ, cells_agg, cells_int, cells_bool, cells_slice, cells_ptr, e1, decide_true])
      |
        refine' DA_take (i := 21) rfl (by kernel_rfl) (fun _ _ _ _ h => (kp _ _ _ h).elim) rfl (QV_un (Ev.tmp rfl) ?hr) ?_
        case hr => intro w; first | (go_simp; done) | (go_simp; rfl)
        simp only [List.set_cons_zero, List.set_cons_succ, Int.toNat_natCast, Nat.reduceAdd, Nat.reduceMul, Int.reduceToNat, List.getElem_toArray, List.getElem_cons_zero, List.getElem_cons_succ, cells_agg, cells_int, cells_bool, cells_slice, cells_ptr, e1, decide_true]
    first
      | (refine' DA_skip (i := 22) rfl (by kernel_rfl) (fun _ _ _ _ h => (kp _ _ _ h).elim) rfl ?_; simp only [List.set_cons_zero, List.set_cons_succ, Int.toNat_natCast, Nat.reduceAdd, Nat.reduceMul, Int.reduceToNat, List.getElem_toArray, List.getElem_cons_zero, List.getElem_cons_succ, cells_agg, cells_int, cells_bool, cells_slice, cells_ptr, e1, decide_true])
      |
        refine' DA_take (i := 22) rfl (by kernel_rfl) (fun _ _ _ _ h => (kp _ _ _ h).elim) rfl (QV_move (Ev.tmp rfl)) ?_
        simp only [List.set_cons_zero, List.set_cons_succ, Int.toNat_natCast, Nat.reduceAdd, Nat.reduceMul, Int.reduceToNat, List.getElem_toArray, List.getElem_cons_zero, List.getElem_cons_succ, cells_agg, cells_int, cells_bool, cells_slice, cells_ptr, e1, decide_true]
    first
      | (refine' DA_skip (i := 23) rfl (by kernel_rfl) (fun _ _ _ _ h => (kp _ _ _ h).elim) rfl ?_; simp only [List.set_cons_zero, List.set_cons_succ, Int.toNat_natCast, Nat.reduceAdd, Nat.reduceMul, Int.reduceToNat, List.getElem_toArray, List.getElem_cons_zero, List.getElem_cons_succ, cells_agg, cells_int, cells_bool, cells_slice, cells_ptr, e1, decide_true])
      |
        refine' DA_take (i := 23) rfl (by kernel_rfl) (fun _ _ _ _ h => (kp _ _ _ h).elim) rfl (QV_move (Ev.tmp rfl)) ?_
        simp only [List.set_cons_zero, List.set_cons_succ, Int.toNat_natCast, Nat.reduceAdd, Nat.reduceMul, Int.reduceToNat, List.getElem_toArray, List.getElem_cons_zero, List.getElem_cons_succ, cells_agg, cells_int, cells_bool, cells_slice, cells_ptr, e1, decide_true]
    first
      | (refine' DA_skip (i := 24) rfl (by kernel_rfl) (fun _ _ _ _ h => (kp _ _ _ h).elim) rfl ?_; simp only [List.set_cons_zero, List.set_cons_succ, Int.toNat_natCast, Nat.reduceAdd, Nat.reduceMul, Int.reduceToNat, List.getElem_toArray, List.getElem_cons_zero, List.getElem_cons_succ, cells_agg, cells_int, cells_bool, cells_slice, cells_ptr, e1, decide_true])
      |
        refine' DA_take (i := 24) rfl (by kernel_rfl) (fun _ _ _ _ h => (kp _ _ _ h).elim) rfl (QV_nil (Ev.tmp rfl)) ?_
        simp only [List.set_cons_zero, List.set_cons_succ, Int.toNat_natCast, Nat.reduceAdd, Nat.reduceMul, Int.reduceToNat, List.getElem_toArray, List.getElem_cons_zero, List.getElem_cons_succ, cells_agg, cells_int, cells_bool, cells_slice, cells_ptr, e1, decide_true]
    first
      | (refine' DA_skip (i := 25) rfl (by kernel_rfl) (fun _ _ _ _ h => (kp _ _ _ h).elim) rfl ?_; simp only [List.set_cons_zero, List.set_cons_succ, Int.toNat_natCast, Nat.reduceAdd, Nat.reduceMul, Int.reduceToNat, List.getElem_toArray, List.getElem_cons_zero, List.getElem_cons_succ, cells_agg, cells_int, cells_bool, cells_slice, cells_ptr, e1, decide_true])
      |
        refine' DA_take (i := 25) rfl (by kernel_rfl) (fun _ _ _ _ h => (kp _ _ _ h).elim) rfl (QV_field (Ev.tmp rfl) (fld105_8 _ _)) ?_
        simp only [List.set_cons_zero, List.set_cons_succ, Int.toNat_natCast, Nat.reduceAdd, Nat.reduceMul, Int.reduceToNat, List.getElem_toArray, List.getElem_cons_zero, List.getElem_cons_succ, cells_agg, cells_int, cells_bool, cells_slice, cells_ptr, e1, decide_true]
    first
      | (refine' DA_skip (i := 26) rfl (by kernel_rfl) (fun _ _ _ _ h => (kp _ _ _ h).elim) rfl ?_; simp only [List.set_cons_zero, List.set_cons_succ, Int.toNat_natCast, Nat.reduceAdd, Nat.reduceMul, Int.reduceToNat, List.getElem_toArray, List.getElem_cons_zero, List.getElem_cons_succ, cells_agg, cells_int, cells_bool, cells_slice, cells_ptr, e1, decide_true])
      |
        first
          | (refine' DA_take (i := 26) rfl (by kernel_rfl) (fun _ _ _ _ h => (kp _ _ _ h).elim) rfl (QV_load1 (Ev.tmp rfl) Try.isAgg3 ?hm ?hv) ?_; (case hm => (repeat (first | exact List.Mem.head _ | assumption | exact List.mem_of_getElem? (by assumption) | exact mem_set_self (by assumption) | apply List.Mem.tail))); (case hv => (first | rfl | assumption)))
          | (refine' DA_take (i := 26) rfl (by kernel_rfl) (fun _ _ _ _ h => (kp _ _ _ h).elim) rfl (QV_loadR (Ev.tmp rfl) ?hp Try.isAgg3 ?hs ?hv) ?_; (case hs => (first | assumption | (refine' Sl.sub (by assumption) ?_; (repeat (first | with_reducible exact List.Sublist.refl _ | with_reducible apply List.Sublist.cons_cons | with_reducible apply List.Sublist.cons))))); (case hv => (first  | rfl | assumption)); (case hp => (first | rfl | omega)))
        simp only [List.set_cons_zero, List.set_cons_succ, Int.toNat_natCast, Nat.reduceAdd, Nat.reduceMul, Int.reduceToNat, List.getElem_toArray, List.getElem_cons_zero, List.getElem_cons_succ, cells_agg, cells_int, cells_bool, cells_slice, cells_ptr, e1, decide_true]
    first
      | (refine' DA_skip (i := 27) rfl (by kernel_rfl) (fun _ _ _ _ h => (kp _ _ _ h).elim) rfl ?_; simp only [List.set_cons_zero, List.set_cons_succ, Int.toNat_natCast, Nat.reduceAdd, Nat.reduceMul, Int.reduceToNat, List.getElem_toArray, List.getElem_cons_zero, List.getElem_cons_succ, cells_agg, cells_int, cells_bool, cells_slice, cells_ptr, e1, decide_true])
      |
        first
          | (refine' DA_take (i := 27) rfl (by kernel_rfl) (fun _ _ _ _ h => (kp _ _ _ h).elim) rfl (QV_eql_y (Ev.tmp rfl) Ev.const ?hb) ?_; case hb => omega)
          | (refine' DA_take (i := 27) rfl (by kernel_rfl) (fun _ _ _ _ h => (kp _ _ _ h).elim) rfl (QV_eql_n (Ev.tmp rfl) Ev.const ?hb) ?_; case hb => omega)
          | (refine' DA_take (i := 27) rfl (by kernel_rfl) (fun _ _ _ _ h => (kp _ _ _ h).elim) rfl (QV_eql (Ev.tmp rfl) Ev.const) ?_)
        simp only [List.set_cons_zero, List.set_cons_succ, Int.toNat_natCast, Nat.reduceAdd, Nat.reduceMul, Int.reduceToNat, List.getElem_toArray, List.getElem_cons_zero, List.getElem_cons_succ, cells_agg, cells_int, cells_bool, cells_slice, cells_ptr, e1, decide_true]
    first
      | (refine' DA_skip (i := 28) rfl (by kernel_rfl) (fun _ _ _ _ h => (kp _ _ _ h).elim) rfl ?_; simp only [List.set_cons_zero, List.set_cons_succ, Int.toNat_natCast, Nat.reduceAdd, Nat.reduceMul, Int.reduceToNat, List.getElem_toArray, List.getElem_cons_zero, List.getElem_cons_succ, cells_agg, cells_int, cells_bool, cells_slice, cells_ptr, e1, decide_true])
      |
        refine' DA_take (i := 28) rfl (by kernel_rfl) (fun _ _ _ _ h => (kp _ _ _ h).elim) rfl (QV_pick (Ev.tmp rfl) Ev.const (Ev.tmp rfl)) ?_
        simp only [if_true, if_false, Bool.false_eq_true, reduceIte, List.set_cons_zero, List.set_cons_succ, Int.toNat_natCast, Nat.reduceAdd, Nat.reduceMul, Int.reduceToNat, List.getElem_toArray, List.getElem_cons_zero, List.getElem_cons_succ, cells_agg, cells_int, cells_bool, cells_slice, cells_ptr, e1, decide_true]
    first
      | (refine' DA_skip (i := 29) rfl (by kernel_rfl) (fun _ _ _ _ h => (kp _ _ _ h).elim) rfl ?_; simp only [List.set_cons_zero, List.set_cons_succ, Int.toNat_natCast, Nat.reduceAdd, Nat.reduceMul, Int.reduceToNat, List.getElem_toArray, List.getElem_cons_zero, List.getElem_cons_succ, cells_agg, cells_int, cells_bool, cells_slice, cells_ptr, e1, decide_true])
      |
        refine' DA_take (i := 29) rfl (by kernel_rfl) (fun _ _ _ _ h => (kp _ _ _ h).elim) rfl (QV_move (Ev.tmp rfl)) ?_
        simp only [List.set_cons_zero, List.set_cons_succ, Int.toNat_natCast, Nat.reduceAdd, Nat.reduceMul, Int.reduceToNat, List.getElem_toArray, List.getElem_cons_zero, List.getElem_cons_succ, cells_agg, cells_int, cells_bool, cells_slice, cells_ptr, e1, decide_true]
    first
      | (refine' DA_skip (i := 30) rfl (by kernel_rfl) (fun _ _ _ _ h => (kp _ _ _ h).elim) rfl ?_; simp only [List.set_cons_zero, List.set_cons_succ, Int.toNat_natCast, Nat.reduceAdd, Nat.reduceMul, Int.reduceToNat, List.getElem_toArray, List.getElem_cons_zero, List.getElem_cons_succ, cells_agg, cells_int, cells_bool, cells_slice, cells_ptr, e1, decide_true])
      |
        refine' DA_take (i := 30) rfl (by kernel_rfl) (fun _ _ _ _ h => (kp _ _ _ h).elim) rfl (QV_field (Ev.tmp rfl) (fld107_1 _ _)) ?_
        simp only [List.set_cons_zero, List.set_cons_succ, Int.toNat_natCast, Nat.reduceAdd, Nat.reduceMul, Int.reduceToNat, List.getElem_toArray, List.getElem_cons_zero, List.getElem_cons_succ, cells_agg, cells_int, cells_bool, cells_slice, cells_ptr, e1, decide_true]
    first
      | (refine' DA_skip (i := 31) rfl (by kernel_rfl) (fun _ _ _ _ h => (kp _ _ _ h).elim) rfl ?_; simp only [List.set_cons_zero, List.set_cons_succ, Int.toNat_natCast, Nat.reduceAdd, Nat.reduceMul, Int.reduceToNat, List.getElem_toArray, List.getElem_cons_zero, List.getElem_cons_succ, cells_agg, cells_int, cells_bool, cells_slice, cells_ptr, e1, decide_true])
      |
        first
          | (refine' DA_take (i := 31) rfl (by kernel_rfl) (fun _ _ _ _ h => (kp _ _ _ h).elim) rfl (QV_load1 (Ev.tmp rfl) Try.isAgg3 ?hm ?hv) ?_; (case hm => (repeat (first | exact List.Mem.head _ | assumption | exact List.mem_of_getElem? (by assumption) | exact mem_set_self (by assumption) | apply List.Mem.tail))); (case hv => (first | rfl | assumption)))
          | (refine' DA_take (i := 31) rfl (by kernel_rfl) (fun _ _ _ _ h => (kp _ _ _ h).elim) rfl (QV_loadR (Ev.tmp rfl) ?hp Try.isAgg3 ?hs ?hv) ?_; (case hs => (first | assumption | (refine' Sl.sub (by assumption) ?_; (repeat (first | with_reducible exact List.Sublist.refl _ | with_reducible apply List.Sublist.cons_cons | with_reducible apply List.Sublist.cons))))); (case hv => (first  | rfl | assumption)); (case hp => (first | rfl | omega)))
        simp only [List.set_cons_zero, List.set_cons_succ, Int.toNat_natCast, Nat.reduceAdd, Nat.reduceMul, Int.reduceToNat, List.getElem_toArray, List.getElem_cons_zero, List.getElem_cons_succ, cells_agg, cells_int, cells_bool, cells_slice, cells_ptr, e1, decide_true]
    first
      | (refine' DA_skip (i := 32) rfl (by kernel_rfl) (fun _ _ _ _ h => (kp _ _ _ h).elim) rfl ?_; simp only [List.set_cons_zero, List.set_cons_succ, Int.toNat_natCast, Nat.reduceAdd, Nat.reduceMul, Int.reduceToNat, List.getElem_toArray, List.getElem_cons_zero, List.getElem_cons_succ, cells_agg, cells_int, cells_bool, cells_slice, cells_ptr, e1, decide_true])
      |
        refine' DA_take (i := 32) rfl (by kernel_rfl) (fun _ _ _ _ h => (kp _ _ _ h).elim) rfl (QV_buildS (EvL.cons Ev.const (EvL.cons (Ev.tmp rfl) EvL.nil)) Try.zeroValue107 Try.underlying107 (plc107 _ Try.underlying107) rfl) ?_
        simp only [putAll, offOf, List.map_cons, List.map_nil, List.zip_cons_cons, List.zip_nil_left, List.zip_nil_right, List.getElem?_cons_zero, List.getElem?_cons_succ, List.set_cons_zero, List.set_cons_succ, Int.toNat_natCast, Nat.reduceAdd, Nat.reduceMul, Int.reduceToNat, List.getElem_toArray, List.getElem_cons_zero, List.getElem_cons_succ, cells_agg, cells_int, cells_bool, cells_slice, cells_ptr, e1, decide_true]
    first
      | (refine' DA_skip (i := 33) rfl (by kernel_rfl) (fun _ _ _ _ h => (kp _ _ _ h).elim) rfl ?_; simp only [List.set_cons_zero, List.set_cons_succ, Int.toNat_natCast, Nat.reduceAdd, Nat.reduceMul, Int.reduceToNat, List.getElem_toArray, List.getElem_cons_zero, List.getElem_cons_succ, cells_agg, cells_int, cells_bool, cells_slice, cells_ptr, e1, decide_true])
      |
        first
          | (refine' DA_take (i := 33) rfl (by kernel_rfl) (fun _ _ _ _ h => (kp _ _ _ h).elim) rfl (QV_loadA (Ev.tmp rfl) Try.isAgg107 Try.sizeOf107 ?hm ?hv ?hn) ?_; (case hm => (repeat (first | exact List.Mem.head _ | assumption | exact List.mem_of_getElem? (by assumption) | exact mem_set_self (by assumption) | apply List.Mem.tail))); (case hv => (simp only [List.toList_toArray, List.take_succ_cons, List.take_zero, List.drop_succ_cons, List.drop_zero, List.take_nil]; rfl)); (case hn => rfl))
          | (refine' DA_take (i := 33) rfl (by kernel_rfl) (fun _ _ _ _ h => (kp _ _ _ h).elim) rfl (QV_loadRA (Ev.tmp rfl) ?hp Try.isAgg107 Try.sizeOf107 ?hs ?hv ?hn) ?_; (case hs => (first | assumption | (refine' Sl.sub (by assumption) ?_; (repeat (first | with_reducible exact List.Sublist.refl _ | with_reducible apply List.Sublist.cons_cons | with_reducible apply List.Sublist.cons))))); (case hv => (first  | rfl)); (case hp => (first | rfl | omega)); (case hn => rfl))
        simp only [List.set_cons_zero, List.set_cons_succ, Int.toNat_natCast, Nat.reduceAdd, Nat.reduceMul, Int.reduceToNat, List.getElem_toArray, List.getElem_cons_zero, List.getElem_cons_succ, cells_agg, cells_int, cells_bool, cells_slice, cells_ptr, e1, decide_true]
    first
      | (refine' DA_skip (i := 34) rfl (by kernel_rfl) (fun _ _ _ _ h => (kp _ _ _ h).elim) rfl ?_; simp only [List.set_cons_zero, List.set_cons_succ, Int.toNat_natCast, Nat.reduceAdd, Nat.reduceMul, Int.reduceToNat, List.getElem_toArray, List.getElem_cons_zero, List.getElem_cons_succ, cells_agg, cells_int, cells_bool, cells_slice, cells_ptr, e1, decide_true])
      |
        refine' DA_take (i := 34) rfl (by kernel_rfl) (fun _ _ _ _ h => (kp _ _ _ h).elim) rfl (QV_bin (Ev.tmp rfl) (Ev.tmp rfl) ?hr) ?_
        case hr => intro w; first | (go_simp; done) | (go_simp; rfl)
        simp only [List.set_cons_zero, List.set_cons_succ, Int.toNat_natCast, Nat.reduceAdd, Nat.reduceMul, Int.reduceToNat, List.getElem_toArray, List.getElem_cons_zero, List.getElem_cons_succ, cells_agg, cells_int, cells_bool, cells_slice, cells_ptr, e1, decide_true]
    first
      | (refine' DA_skip (i := 35) rfl (by kernel_rfl) (fun _ _ _ _ h => (kp _ _ _ h).elim) rfl ?_; simp only [List.set_cons_zero, List.set_cons_succ, Int.toNat_natCast, Nat.reduceAdd, Nat.reduceMul, Int.reduceToNat, List.getElem_toArray, List.getElem_cons_zero, List.getElem_cons_succ, cells_agg, cells_int, cells_bool, cells_slice, cells_ptr, e1, decide_true])
      |
        refine' DA_take (i := 35) rfl (by kernel_rfl) (fun _ _ _ _ h => (kp _ _ _ h).elim) rfl (QV_pick (Ev.tmp rfl) Ev.const (Ev.tmp rfl)) ?_
        simp only [if_true, if_false, Bool.false_eq_true, reduceIte, List.set_cons_zero, List.set_cons_succ, Int.toNat_natCast, Nat.reduceAdd, Nat.reduceMul, Int.reduceToNat, List.getElem_toArray, List.getElem_cons_zero, List.getElem_cons_succ, cells_agg, cells_int, cells_bool, cells_slice, cells_ptr, e1, decide_true]
    first
      | (refine' DA_skip (i := 36) rfl (by kernel_rfl) (fun _ _ _ _ h => (kp _ _ _ h).elim) rfl ?_; simp only [List.set_cons_zero, List.set_cons_succ, Int.toNat_natCast, Nat.reduceAdd, Nat.reduceMul, Int.reduceToNat, List.getElem_toArray, List.getElem_cons_zero, List.getElem_cons_succ, cells_agg, cells_int, cells_bool, cells_slice, cells_ptr, e1, decide_true])
      |
        refine' DA_take (i := 36) rfl (by kernel_rfl) (fun _ _ _ _ h => (kp _ _ _ h).elim) rfl (QV_pick (Ev.tmp rfl) (Ev.tmp rfl) Ev.const) ?_
        simp only [if_true, if_false, Bool.false_eq_true, reduceIte, List.set_cons_zero, List.set_cons_succ, Int.toNat_natCast, Nat.reduceAdd, Nat.reduceMul, Int.reduceToNat, List.getElem_toArray, List.getElem_cons_zero, List.getElem_cons_succ, cells_agg, cells_int, cells_bool, cells_slice, cells_ptr, e1, decide_true]
    refine' DA_take (i := 37) rfl (by kernel_rfl) (fun _ _ _ _ h => (kp _ _ _ h).elim) rfl (QV_pick (Ev.tmp rfl) Ev.const (Ev.tmp rfl)) ?_
    simp only [if_true, if_false, Bool.false_eq_true, reduceIte, List.set_cons_zero, List.set_cons_succ, Int.toNat_natCast, Nat.reduceAdd, Nat.reduceMul, Int.reduceToNat, List.getElem_toArray, List.getElem_cons_zero, List.getElem_cons_succ, cells_agg, cells_int, cells_bool, cells_slice, cells_ptr, e1, decide_true]
    refine DA_done (by kernel_rfl) ?_
    try simp only [List.nil_append, List.cons_append]
    refine hN8 _ _ ?_
    try clear hN8 N8
    refine HC_no rfl rfl ?_
    refine HC_skip ?_
    refine hN7 _ _ ?_
    try clear hN7 N7
    refine HC_seq fun N10 hN10 => ?_
    refine HC_region ?_
    first
      | (refine' HL_q rfl rfl (QV_loadA (Ev.tmp rfl) Try.isAgg107 Try.sizeOf107 ?hm ?hv ?hn) ?_; (case hm => (repeat (first | exact List.Mem.head _ | assumption | exact List.mem_of_getElem? (by assumption) | exact mem_set_self (by assumption) | apply List.Mem.tail))); (case hv => (simp only [List.toList_toArray, List.take_succ_cons, List.take_zero, List.drop_succ_cons, List.drop_zero, List.take_nil]; rfl)); (case hn => rfl))
      | (refine' HL_q rfl rfl (QV_loadRA (Ev.tmp rfl) ?hp Try.isAgg107 Try.sizeOf107 ?hs ?hv ?hn) ?_; (case hs => (first | assumption | (refine' Sl.sub (by assumption) ?_; (repeat (first | with_reducible exact List.Sublist.refl _ | with_reducible apply List.Sublist.cons_cons | with_reducible apply List.Sublist.cons))))); (case hv => (first  | rfl)); (case hp => (first | rfl | omega)); (case hn => rfl))
    simp only [List.set_cons_zero, List.set_cons_succ, Int.toNat_natCast, Nat.reduceAdd, Nat.reduceMul, Int.reduceToNat, List.getElem_toArray, List.getElem_cons_zero, List.getElem_cons_succ, cells_agg, cells_int, cells_bool, cells_slice, cells_ptr, e1, decide_true]
    refine' HL_s rfl rfl (SO_store (Ev.tmp rfl) (Ev.tmp rfl) Try.sizeOf107 ?hvs ?hn ?h1 ?hm ?hfit) ?_
    case hvs => rfl
    case hn => rfl
    case h1 => rfl
    case hm => (repeat (first | with_reducible exact Upd.head | exact Upd.at_ (by assumption) | exact Upd.set (by assumption) | apply Upd.tail))
    case hfit => simp
    rintro _ _ ⟨rfl, rfl⟩
    simp only [spl, List.set_cons_zero, List.set_cons_succ, List.toList_toArray, List.take_succ_cons, List.take_zero, List.drop_succ_cons, List.drop_zero, List.nil_append, List.cons_append, List.append_nil, List.length_cons, List.length_nil, Nat.zero_add, Nat.reduceAdd, List.take_nil, List.drop_nil]
    refine' HL_q rfl rfl (QV_assign Ev.const) ?_
    simp only [List.set_cons_zero, List.set_cons_succ, Int.toNat_natCast, Nat.reduceAdd, Nat.reduceMul, Int.reduceToNat, List.getElem_toArray, List.getElem_cons_zero, List.getElem_cons_succ, cells_agg, cells_int, cells_bool, cells_slice, cells_ptr, e1, decide_true]
    refine HL_nil ?_
    refine hN10 _ _ ?_
    try clear hN10 N10
    refine HC_ret ?_
    try simp only [thenK, blockK]
    refine kr _ _ ?_
    refine' Lv_cell_tmp rfl rfl Try.isAgg107 Try.sizeOf107 ?hm ?hn rfl ?post ?le
    case hm => (repeat (first | exact List.Mem.head _ | assumption | exact List.mem_of_getElem? (by assumption) | exact mem_set_self (by assumption) | apply List.Mem.tail))
    case hn => rfl
    case post => exact ⟨rfl, rfl⟩
    case le => (first | with_reducible exact Le.refl | (refine Le.of ?_; (repeat (first | with_reducible exact Sp.refl | with_reducible exact Sp.nil | (apply Sp.pick; focus ((repeat (first | with_reducible exact Rm.head | with_reducible apply Rm.tail)); done)) | with_reducible refine Sp.drop ?_))))
  · obtain ⟨rfl, he0, hend⟩ := hfin rfl
    have hb' : decide (¬ ((0 : Int) = 0 ∧ ((off + k : Nat) : Int) = (xs.length : Int))) = false := by simp; omega
    have hb'' : decide (¬ (True ∧ ((off + k : Nat) : Int) = (xs.length : Int))) = false := by simp; omega
    refine HC_seq fun N7 hN7 => ?_
    refine HC_seq fun N8 hN8 => ?_
    refine HC_draw 38 [] _ mixed rfl ?_
    refine' DA_take (i := 0) rfl (by kernel_rfl) (fun _ _ _ _ h => (kp _ _ _ h).elim) rfl (QV_field (Ev.tmp rfl) (fld36_6 _ _)) ?_
    simp only [List.set_cons_zero, List.set_cons_succ, Int.toNat_natCast, Nat.reduceAdd, Nat.reduceMul, Int.reduceToNat, List.getElem_toArray, List.getElem_cons_zero, List.getElem_cons_succ, cells_agg, cells_int, cells_bool, cells_slice, cells_ptr, e1, decide_true, hb', hb'']
    first
      | (refine' DA_take (i := 1) rfl (by kernel_rfl) (fun _ _ _ _ h => (kp _ _ _ h).elim) rfl (QV_load1 (Ev.tmp rfl) Try.isAgg22 ?hm ?hv) ?_; (case hm => (repeat (first | exact List.Mem.head _ | assumption | exact List.mem_of_getElem? (by assumption) | exact mem_set_self (by assumption) | apply List.Mem.tail))); (case hv => (first | rfl | assumption)))
      | (refine' DA_take (i := 1) rfl (by kernel_rfl) (fun _ _ _ _ h => (kp _ _ _ h).elim) rfl (QV_loadR (Ev.tmp rfl) ?hp Try.isAgg22 ?hs ?hv) ?_; (case hs => (first | assumption | (refine' Sl.sub (by assumption) ?_; (repeat (first | with_reducible exact List.Sublist.refl _ | with_reducible apply List.Sublist.cons_cons | with_reducible apply List.Sublist.cons))))); (case hv => (first  | rfl | assumption)); (case hp => (first | rfl | omega)))
    simp only [List.set_cons_zero, List.set_cons_succ, Int.toNat_natCast, Nat.reduceAdd, Nat.reduceMul, Int.reduceToNat, List.getElem_toArray, List.getElem_cons_zero, List.getElem_cons_succ, cells_agg, cells_int, cells_bool, cells_slice, cells_ptr, e1, decide_true, hb', hb'']
    refine' DA_take (i := 2) rfl (by kernel_rfl) (fun _ _ _ _ h => (kp _ _ _ h).elim) rfl (QV_move (Ev.tmp rfl)) ?_
    simp only [List.set_cons_zero, List.set_cons_succ, Int.toNat_natCast, Nat.reduceAdd, Nat.reduceMul, Int.reduceToNat, List.getElem_toArray, List.getElem_cons_zero, List.getElem_cons_succ, cells_agg, cells_int, cells_bool, cells_slice, cells_ptr, e1, decide_true, hb', hb'']
    refine' DA_take (i := 3) rfl (by kernel_rfl) (fun _ _ _ _ h => (kp _ _ _ h).elim) rfl (QV_nil (Ev.tmp rfl)) ?_
    simp only [List.set_cons_zero, List.set_cons_succ, Int.toNat_natCast, Nat.reduceAdd, Nat.reduceMul, Int.reduceToNat, List.getElem_toArray, List.getElem_cons_zero, List.getElem_cons_succ, cells_agg, cells_int, cells_bool, cells_slice, cells_ptr, e1, decide_true, hb', hb'']
    refine' DA_take (i := 4) rfl (by kernel_rfl) (fun _ _ _ _ h => (kp _ _ _ h).elim) rfl (QV_field (Ev.tmp rfl) (fld105_3 _ _)) ?_
    simp only [List.set_cons_zero, List.set_cons_succ, Int.toNat_natCast, Nat.reduceAdd, Nat.reduceMul, Int.reduceToNat, List.getElem_toArray, List.getElem_cons_zero, List.getElem_cons_succ, cells_agg, cells_int, cells_bool, cells_slice, cells_ptr, e1, decide_true, hb', hb'']
    first
      | (refine' DA_take (i := 5) rfl (by kernel_rfl) (fun _ _ _ _ h => (kp _ _ _ h).elim) rfl (QV_load1 (Ev.tmp rfl) Try.isAgg22 ?hm ?hv) ?_; (case hm => (repeat (first | exact List.Mem.head _ | assumption | exact List.mem_of_getElem? (by assumption) | exact mem_set_self (by assumption) | apply List.Mem.tail))); (case hv => (first | rfl | assumption)))
      | (refine' DA_take (i := 5) rfl (by kernel_rfl) (fun _ _ _ _ h => (kp _ _ _ h).elim) rfl (QV_loadR (Ev.tmp rfl) ?hp Try.isAgg22 ?hs ?hv) ?_; (case hs => (first | assumption | (refine' Sl.sub (by assumption) ?_; (repeat (first | with_reducible exact List.Sublist.refl _ | with_reducible apply List.Sublist.cons_cons | with_reducible apply List.Sublist.cons))))); (case hv => (first  | rfl | assumption)); (case hp => (first | rfl | omega)))
    simp only [List.set_cons_zero, List.set_cons_succ, Int.toNat_natCast, Nat.reduceAdd, Nat.reduceMul, Int.reduceToNat, List.getElem_toArray, List.getElem_cons_zero, List.getElem_cons_succ, cells_agg, cells_int, cells_bool, cells_slice, cells_ptr, e1, decide_true, hb', hb'']
    refine' DA_take (i := 6) rfl (by kernel_rfl) (fun _ _ _ _ h => (kp _ _ _ h).elim) rfl (QV_field (Ev.tmp rfl) (fld107_0 _ _)) ?_
    simp only [List.set_cons_zero, List.set_cons_succ, Int.toNat_natCast, Nat.reduceAdd, Nat.reduceMul, Int.reduceToNat, List.getElem_toArray, List.getElem_cons_zero, List.getElem_cons_succ, cells_agg, cells_int, cells_bool, cells_slice, cells_ptr, e1, decide_true, hb', hb'']
    first
      | (refine' DA_take (i := 7) rfl (by kernel_rfl) (fun _ _ _ _ h => (kp _ _ _ h).elim) rfl (QV_load1 (Ev.tmp rfl) Try.isAgg3 ?hm ?hv) ?_; (case hm => (repeat (first | exact List.Mem.head _ | assumption | exact List.mem_of_getElem? (by assumption) | exact mem_set_self (by assumption) | apply List.Mem.tail))); (case hv => (first | rfl | assumption)))
      | (refine' DA_take (i := 7) rfl (by kernel_rfl) (fun _ _ _ _ h => (kp _ _ _ h).elim) rfl (QV_loadR (Ev.tmp rfl) ?hp Try.isAgg3 ?hs ?hv) ?_; (case hs => (first | assumption | (refine' Sl.sub (by assumption) ?_; (repeat (first | with_reducible exact List.Sublist.refl _ | with_reducible apply List.Sublist.cons_cons | with_reducible apply List.Sublist.cons))))); (case hv => (first  | rfl | assumption)); (case hp => (first | rfl | omega)))
    simp only [List.set_cons_zero, List.set_cons_succ, Int.toNat_natCast, Nat.reduceAdd, Nat.reduceMul, Int.reduceToNat, List.getElem_toArray, List.getElem_cons_zero, List.getElem_cons_succ, cells_agg, cells_int, cells_bool, cells_slice, cells_ptr, e1, decide_true, hb', hb'']
    refine' DA_take (i := 8) rfl (by kernel_rfl) (fun _ _ _ _ h => (kp _ _ _ h).elim) rfl (QV_field (Ev.tmp rfl) (fld107_1 _ _)) ?_
    simp only [List.set_cons_zero, List.set_cons_succ, Int.toNat_natCast, Nat.reduceAdd, Nat.reduceMul, Int.reduceToNat, List.getElem_toArray, List.getElem_cons_zero, List.getElem_cons_succ, cells_agg, cells_int, cells_bool, cells_slice, cells_ptr, e1, decide_true, hb', hb'']
    first
      | (refine' DA_take (i := 9) rfl (by kernel_rfl) (fun _ _ _ _ h => (kp _ _ _ h).elim) rfl (QV_load1 (Ev.tmp rfl) Try.isAgg3 ?hm ?hv) ?_; (case hm => (repeat (first | exact List.Mem.head _ | assumption | exact List.mem_of_getElem? (by assumption) | exact mem_set_self (by assumption) | apply List.Mem.tail))); (case hv => (first | rfl | assumption)))
      | (refine' DA_take (i := 9) rfl (by kernel_rfl) (fun _ _ _ _ h => (kp _ _ _ h).elim) rfl (QV_loadR (Ev.tmp rfl) ?hp Try.isAgg3 ?hs ?hv) ?_; (case hs => (first | assumption | (refine' Sl.sub (by assumption) ?_; (repeat (first | with_reducible exact List.Sublist.refl _ | with_reducible apply List.Sublist.cons_cons | with_reducible apply List.Sublist.cons))))); (case hv => (first  | rfl | assumption)); (case hp => (first | rfl | omega)))
    simp only [List.set_cons_zero, List.set_cons_succ, Int.toNat_natCast, Nat.reduceAdd, Nat.reduceMul, Int.reduceToNat, List.getElem_toArray, List.getElem_cons_zero, List.getElem_cons_succ, cells_agg, cells_int, cells_bool, cells_slice, cells_ptr, e1, decide_true, hb', hb'']
    refine' DA_take (i := 10) rfl (by kernel_rfl) (fun _ _ _ _ h => (kp _ _ _ h).elim) rfl (QV_cut (Ev.tmp rfl) (Ev.tmp rfl) (Ev.tmp rfl) Try.underlying22 Try.sizeOf5 ?h0 ?h1 ?h2) ?_
    case h0 => omega
    case h1 => omega
    case h2 => omega
    simp only [List.set_cons_zero, List.set_cons_succ, Int.toNat_natCast, Nat.reduceAdd, Nat.reduceMul, Int.reduceToNat, List.getElem_toArray, List.getElem_cons_zero, List.getElem_cons_succ, cells_agg, cells_int, cells_bool, cells_slice, cells_ptr, e1, decide_true, hb', hb'']
    refine DA_one (i := 11) (by kernel_rfl) ?_
    refine' DB_call (i := 11) rfl rfl en111 (call_fn (EvL.cons (Ev.tmp rfl) (EvL.cons (Ev.tmp rfl) EvL.nil)).evs) ((equal_bytes (Sl.sub hd (by repeat (first | exact List.Sublist.refl _ | apply List.Sublist.cons))) (Sl.sub hcut (by repeat (first | exact List.Sublist.refl _ | apply List.Sublist.cons))) hkl (by rw [← hkl]; omega))) ?_
    rintro _ _ ⟨rfl, rfl⟩
    refine ⟨_, rfl, ?_⟩
    simp only [List.set_cons_zero, List.set_cons_succ, Int.toNat_natCast, Nat.reduceAdd, Nat.reduceMul, Int.reduceToNat, List.getElem_toArray, List.getElem_cons_zero, List.getElem_cons_succ, cells_agg, cells_int, cells_bool, cells_slice, cells_ptr, e1, decide_true, hb', hb'']
    refine' DA_take (i := 12) rfl (by kernel_rfl) (fun _ _ _ _ h => (kp _ _ _ h).elim) rfl (QV_un (Ev.tmp rfl) ?hr) ?_
    case hr => intro w; first | (go_simp; done) | (go_simp; rfl)
    simp only [List.set_cons_zero, List.set_cons_succ, Int.toNat_natCast, Nat.reduceAdd, Nat.reduceMul, Int.reduceToNat, List.getElem_toArray, List.getElem_cons_zero, List.getElem_cons_succ, cells_agg, cells_int, cells_bool, cells_slice, cells_ptr, e1, decide_true, hb', hb'']
    refine' DA_take (i := 13) rfl (by kernel_rfl) (fun _ _ _ _ h => (kp _ _ _ h).elim) rfl (QV_move (Ev.tmp rfl)) ?_
    simp only [List.set_cons_zero, List.set_cons_succ, Int.toNat_natCast, Nat.reduceAdd, Nat.reduceMul, Int.reduceToNat, List.getElem_toArray, List.getElem_cons_zero, List.getElem_cons_succ, cells_agg, cells_int, cells_bool, cells_slice, cells_ptr, e1, decide_true, hb', hb'']
    first
      | (refine' DA_skip (i := 14) rfl (by kernel_rfl) (fun _ _ _ _ h => (kp _ _ _ h).elim) rfl ?_; simp only [List.set_cons_zero, List.set_cons_succ, Int.toNat_natCast, Nat.reduceAdd, Nat.reduceMul, Int.reduceToNat, List.getElem_toArray, List.getElem_cons_zero, List.getElem_cons_succ, cells_agg, cells_int, cells_bool, cells_slice, cells_ptr, e1, decide_true, hb', hb''])
      |
        refine' DA_take (i := 14) rfl (by kernel_rfl) (fun _ _ _ _ h => (kp _ _ _ h).elim) rfl (QV_field (Ev.tmp rfl) (fld36_5 _ _)) ?_
        simp only [List.set_cons_zero, List.set_cons_succ, Int.toNat_natCast, Nat.reduceAdd, Nat.reduceMul, Int.reduceToNat, List.getElem_toArray, List.getElem_cons_zero, List.getElem_cons_succ, cells_agg, cells_int, cells_bool, cells_slice, cells_ptr, e1, decide_true, hb', hb'']
    first
      | (refine' DA_skip (i := 15) rfl (by kernel_rfl) (fun _ _ _ _ h => (kp _ _ _ h).elim) rfl ?_; simp only [List.set_cons_zero, List.set_cons_succ, Int.toNat_natCast, Nat.reduceAdd, Nat.reduceMul, Int.reduceToNat, List.getElem_toArray, List.getElem_cons_zero, List.getElem_cons_succ, cells_agg, cells_int, cells_bool, cells_slice, cells_ptr, e1, decide_true, hb', hb''])
      |
        first
          | (refine' DA_take (i := 15) rfl (by kernel_rfl) (fun _ _ _ _ h => (kp _ _ _ h).elim) rfl (QV_load1 (Ev.tmp rfl) Try.isAgg4 ?hm ?hv) ?_; (case hm => (repeat (first | exact List.Mem.head _ | assumption | exact List.mem_of_getElem? (by assumption) | exact mem_set_self (by assumption) | apply List.Mem.tail))); (case hv => (first | rfl | assumption)))
          | (refine' DA_take (i := 15) rfl (by kernel_rfl) (fun _ _ _ _ h => (kp _ _ _ h).elim) rfl (QV_loadR (Ev.tmp rfl) ?hp Try.isAgg4 ?hs ?hv) ?_; (case hs => (first | assumption | (refine' Sl.sub (by assumption) ?_; (repeat (first | with_reducible exact List.Sublist.refl _ | with_reducible apply List.Sublist.cons_cons | with_reducible apply List.Sublist.cons))))); (case hv => (first  | rfl | assumption)); (case hp => (first | rfl | omega)))
        simp only [List.set_cons_zero, List.set_cons_succ, Int.toNat_natCast, Nat.reduceAdd, Nat.reduceMul, Int.reduceToNat, List.getElem_toArray, List.getElem_cons_zero, List.getElem_cons_succ, cells_agg, cells_int, cells_bool, cells_slice, cells_ptr, e1, decide_true, hb', hb'']
    first
      | (refine' DA_skip (i := 16) rfl (by kernel_rfl) (fun _ _ _ _ h => (kp _ _ _ h).elim) rfl ?_; simp only [List.set_cons_zero, List.set_cons_succ, Int.toNat_natCast, Nat.reduceAdd, Nat.reduceMul, Int.reduceToNat, List.getElem_toArray, List.getElem_cons_zero, List.getElem_cons_succ, cells_agg, cells_int, cells_bool, cells_slice, cells_ptr, e1, decide_true, hb', hb''])
      |
        refine' DA_take (i := 16) rfl (by kernel_rfl) (fun _ _ _ _ h => (kp _ _ _ h).elim) rfl (QV_move (Ev.tmp rfl)) ?_
        simp only [List.set_cons_zero, List.set_cons_succ, Int.toNat_natCast, Nat.reduceAdd, Nat.reduceMul, Int.reduceToNat, List.getElem_toArray, List.getElem_cons_zero, List.getElem_cons_succ, cells_agg, cells_int, cells_bool, cells_slice, cells_ptr, e1, decide_true, hb', hb'']
    first
      | (refine' DA_skip (i := 17) rfl (by kernel_rfl) (fun _ _ _ _ h => (kp _ _ _ h).elim) rfl ?_; simp only [List.set_cons_zero, List.set_cons_succ, Int.toNat_natCast, Nat.reduceAdd, Nat.reduceMul, Int.reduceToNat, List.getElem_toArray, List.getElem_cons_zero, List.getElem_cons_succ, cells_agg, cells_int, cells_bool, cells_slice, cells_ptr, e1, decide_true, hb', hb''])
      |
        refine' DA_take (i := 17) rfl (by kernel_rfl) (fun _ _ _ _ h => (kp _ _ _ h).elim) rfl (QV_move (Ev.tmp rfl)) ?_
        simp only [List.set_cons_zero, List.set_cons_succ, Int.toNat_natCast, Nat.reduceAdd, Nat.reduceMul, Int.reduceToNat, List.getElem_toArray, List.getElem_cons_zero, List.getElem_cons_succ, cells_agg, cells_int, cells_bool, cells_slice, cells_ptr, e1, decide_true, hb', hb'']
    first
      | (refine' DA_skip (i := 18) rfl (by kernel_rfl) (fun _ _ _ _ h => (kp _ _ _ h).elim) rfl ?_; simp only [List.set_cons_zero, List.set_cons_succ, Int.toNat_natCast, Nat.reduceAdd, Nat.reduceMul, Int.reduceToNat, List.getElem_toArray, List.getElem_cons_zero, List.getElem_cons_succ, cells_agg, cells_int, cells_bool, cells_slice, cells_ptr, e1, decide_true, hb', hb''])
      |
        refine' DA_take (i := 18) rfl (by kernel_rfl) (fun _ _ _ _ h => (kp _ _ _ h).elim) rfl (QV_nil (Ev.tmp rfl)) ?_
        simp only [List.set_cons_zero, List.set_cons_succ, Int.toNat_natCast, Nat.reduceAdd, Nat.reduceMul, Int.reduceToNat, List.getElem_toArray, List.getElem_cons_zero, List.getElem_cons_succ, cells_agg, cells_int, cells_bool, cells_slice, cells_ptr, e1, decide_true, hb', hb'']
    first
      | (refine' DA_skip (i := 19) rfl (by kernel_rfl) (fun _ _ _ _ h => (kp _ _ _ h).elim) rfl ?_; simp only [List.set_cons_zero, List.set_cons_succ, Int.toNat_natCast, Nat.reduceAdd, Nat.reduceMul, Int.reduceToNat, List.getElem_toArray, List.getElem_cons_zero, List.getElem_cons_succ, cells_agg, cells_int, cells_bool, cells_slice, cells_ptr, e1, decide_true, hb', hb''])
      |
        refine' DA_take (i := 19) rfl (by kernel_rfl) (fun _ _ _ _ h => (kp _ _ _ h).elim) rfl (QV_field (Ev.tmp rfl) (fld105_7 _ _)) ?_
        simp only [List.set_cons_zero, List.set_cons_succ, Int.toNat_natCast, Nat.reduceAdd, Nat.reduceMul, Int.reduceToNat, List.getElem_toArray, List.getElem_cons_zero, List.getElem_cons_succ, cells_agg, cells_int, cells_bool, cells_slice, cells_ptr, e1, decide_true, hb', hb'']
    first
      | (refine' DA_skip (i := 20) rfl (by kernel_rfl) (fun _ _ _ _ h => (kp _ _ _ h).elim) rfl ?_; simp only [List.set_cons_zero, List.set_cons_succ, Int.toNat_natCast, Nat.reduceAdd, Nat.reduceMul, Int.reduceToNat, List.getElem_toArray, List.getElem_cons_zero, List.getElem_cons_succ, cells_agg, cells_int, cells_bool, cells_slice, cells_ptr, e1, decide_true, hb', hb''])
      |
        first
          | (refine' DA_take (i := 20) rfl (by kernel_rfl) (fun _ _ _ _ h => (kp _ _ _ h).elim) rfl (QV_load1 (Ev.tmp rfl) Try.isAgg4 ?hm ?hv) ?_; (case hm => (repeat (first | exact List.Mem.head _ | assumption | exact List.mem_of_getElem? (by assumption) | exact mem_set_self (by assumption) | apply List.Mem.tail))); (case hv => (first | rfl | assumption)))
          | (refine' DA_take (i := 20) rfl (by kernel_rfl) (fun _ _ _ _ h => (kp _ _ _ h).elim) rfl (QV_loadR (Ev.tmp rfl) ?hp Try.isAgg4 ?hs ?hv) ?_; (case hs => (first | assumption | (refine' Sl.sub (by assumption) ?_; (repeat (first | with_reducible exact List.Sublist.refl _ | with_reducible apply List.Sublist.cons_cons | with_reducible apply List.Sublist.cons))))); (case hv => (first  | rfl | assumption)); (case hp => (first | rfl | omega)))
        simp only [List.set_cons_zero, List.set_cons_succ, Int.toNat_natCast, Nat.reduceAdd, Nat.reduceMul, Int.reduceToNat, List.getElem_toArray, List.getElem_cons_zero, List.getElem_cons_succ, cells_agg, cells_int, cells_bool, cells_slice, cells_ptr, e1, decide_true, hb', hb'']
    first
      | (refine' DA_skip (i := 21) rfl (by kernel_rfl) (fun _ _ _ _ h => (kp _ _ _ h).elim) rfl ?_; simp only [List.set_cons_zero, List.set_cons_succ, Int.toNat_natCast, Nat.reduceAdd, Nat.reduceMul, Int.reduceToNat, List.getElem_toArray, List.getElem_cons_zero, List.getElem_cons_succ, cells_agg, cells_int, cells_bool, cells_slice, cells_ptr, e1, decide_true, hb', hb''])
      |
        refine' DA_take (i := 21) rfl (by kernel_rfl) (fun _ _ _ _ h => (kp _ _ _ h).elim) rfl (QV_un (Ev.tmp rfl) ?hr) ?_
        case hr => intro w; first | (go_simp; done) | (go_simp; rfl)
        simp only [List.set_cons_zero, List.set_cons_succ, Int.toNat_natCast, Nat.reduceAdd, Nat.reduceMul, Int.reduceToNat, List.getElem_toArray, List.getElem_cons_zero, List.getElem_cons_succ, cells_agg, cells_int, cells_bool, cells_slice, cells_ptr, e1, decide_true, hb', hb'']
    first
      | (refine' DA_skip (i := 22) rfl (by kernel_rfl) (fun _ _ _ _ h => (kp _ _ _ h).elim) rfl ?_; simp only [List.set_cons_zero, List.set_cons_succ, Int.toNat_natCast, Nat.reduceAdd, Nat.reduceMul, Int.reduceToNat, List.getElem_toArray, List.getElem_cons_zero, List.getElem_cons_succ, cells_agg, cells_int, cells_bool, cells_slice, cells_ptr, e1, decide_true, hb', hb''])
      |
        refine' DA_take (i := 22) rfl (by kernel_rfl) (fun _ _ _ _ h => (kp _ _ _ h).elim) rfl (QV_move (Ev.tmp rfl)) ?_
        simp only [List.set_cons_zero, List.set_cons_succ, Int.toNat_natCast, Nat.reduceAdd, Nat.reduceMul, Int.reduceToNat, List.getElem_toArray, List.getElem_cons_zero, List.getElem_cons_succ, cells_agg, cells_int, cells_bool, cells_slice, cells_ptr, e1, decide_true, hb', hb'']
    first
      | (refine' DA_skip (i := 23) rfl (by kernel_rfl) (fun _ _ _ _ h => (kp _ _ _ h).elim) rfl ?_; simp only [List.set_cons_zero, List.set_cons_succ, Int.toNat_natCast, Nat.reduceAdd, Nat.reduceMul, Int.reduceToNat, List.getElem_toArray, List.getElem_cons_zero, List.getElem_cons_succ, cells_agg, cells_int, cells_bool, cells_slice, cells_ptr, e1, decide_true, hb', hb''])
      |
        refine' DA_take (i := 23) rfl (by kernel_rfl) (fun _ _ _ _ h => (kp _ _ _ h).elim) rfl (QV_move (Ev.tmp rfl)) ?_
        simp only [List.set_cons_zero, List.set_cons_succ, Int.toNat_natCast, Nat.reduceAdd, Nat.reduceMul, Int.reduceToNat, List.getElem_toArray, List.getElem_cons_zero, List.getElem_cons_succ, cells_agg, cells_int, cells_bool, cells_slice, cells_ptr, e1, decide_true, hb', hb'']
    first
      | (refine' DA_skip (i := 24) rfl (by kernel_rfl) (fun _ _ _ _ h => (kp _ _ _ h).elim) rfl ?_; simp only [List.set_cons_zero, List.set_cons_succ, Int.toNat_natCast, Nat.reduceAdd, Nat.reduceMul, Int.reduceToNat, List.getElem_toArray, List.getElem_cons_zero, List.getElem_cons_succ, cells_agg, cells_int, cells_bool, cells_slice, cells_ptr, e1, decide_true, hb', hb''])
      |
        refine' DA_take (i := 24) rfl (by kernel_rfl) (fun _ _ _ _ h => (kp _ _ _ h).elim) rfl (QV_nil (Ev.tmp rfl)) ?_
        simp only [List.set_cons_zero, List.set_cons_succ, Int.toNat_natCast, Nat.reduceAdd, Nat.reduceMul, Int.reduceToNat, List.getElem_toArray, List.getElem_cons_zero, List.getElem_cons_succ, cells_agg, cells_int, cells_bool, cells_slice, cells_ptr, e1, decide_true, hb', hb'']
    first
      | (refine' DA_skip (i := 25) rfl (by kernel_rfl) (fun _ _ _ _ h => (kp _ _ _ h).elim) rfl ?_; simp only [List.set_cons_zero, List.set_cons_succ, Int.toNat_natCast, Nat.reduceAdd, Nat.reduceMul, Int.reduceToNat, List.getElem_toArray, List.getElem_cons_zero, List.getElem_cons_succ, cells_agg, cells_int, cells_bool, cells_slice, cells_ptr, e1, decide_true, hb', hb''])
      |
        refine' DA_take (i := 25) rfl (by kernel_rfl) (fun _ _ _ _ h => (kp _ _ _ h).elim) rfl (QV_field (Ev.tmp rfl) (fld105_8 _ _)) ?_
        simp only [List.set_cons_zero, List.set_cons_succ, Int.toNat_natCast, Nat.reduceAdd, Nat.reduceMul, Int.reduceToNat, List.getElem_toArray, List.getElem_cons_zero, List.getElem_cons_succ, cells_agg, cells_int, cells_bool, cells_slice, cells_ptr, e1, decide_true, hb', hb'']
    first
      | (refine' DA_skip (i := 26) rfl (by kernel_rfl) (fun _ _ _ _ h => (kp _ _ _ h).elim) rfl ?_; simp only [List.set_cons_zero, List.set_cons_succ, Int.toNat_natCast, Nat.reduceAdd, Nat.reduceMul, Int.reduceToNat, List.getElem_toArray, List.getElem_cons_zero, List.getElem_cons_succ, cells_agg, cells_int, cells_bool, cells_slice, cells_ptr, e1, decide_true, hb', hb''])
      |
        first
          | (refine' DA_take (i := 26) rfl (by kernel_rfl) (fun _ _ _ _ h => (kp _ _ _ h).elim) rfl (QV_load1 (Ev.tmp rfl) Try.isAgg3 ?hm ?hv) ?_; (case hm => (repeat (first | exact List.Mem.head _ | assumption | exact List.mem_of_getElem? (by assumption) | exact mem_set_self (by assumption) | apply List.Mem.tail))); (case hv => (first | rfl | assumption)))
          | (refine' DA_take (i := 26) rfl (by kernel_rfl) (fun _ _ _ _ h => (kp _ _ _ h).elim) rfl (QV_loadR (Ev.tmp rfl) ?hp Try.isAgg3 ?hs ?hv) ?_; (case hs => (first | assumption | (refine' Sl.sub (by assumption) ?_; (repeat (first | with_reducible exact List.Sublist.refl _ | with_reducible apply List.Sublist.cons_cons | with_reducible apply List.Sublist.cons))))); (case hv => (first  | rfl | assumption)); (case hp => (first | rfl | omega)))
        simp only [List.set_cons_zero, List.set_cons_succ, Int.toNat_natCast, Nat.reduceAdd, Nat.reduceMul, Int.reduceToNat, List.getElem_toArray, List.getElem_cons_zero, List.getElem_cons_succ, cells_agg, cells_int, cells_bool, cells_slice, cells_ptr, e1, decide_true, hb', hb'']
    first
      | (refine' DA_skip (i := 27) rfl (by kernel_rfl) (fun _ _ _ _ h => (kp _ _ _ h).elim) rfl ?_; simp only [List.set_cons_zero, List.set_cons_succ, Int.toNat_natCast, Nat.reduceAdd, Nat.reduceMul, Int.reduceToNat, List.getElem_toArray, List.getElem_cons_zero, List.getElem_cons_succ, cells_agg, cells_int, cells_bool, cells_slice, cells_ptr, e1, decide_true, hb', hb''])
      |
        first
          | (refine' DA_take (i := 27) rfl (by kernel_rfl) (fun _ _ _ _ h => (kp _ _ _ h).elim) rfl (QV_eql_y (Ev.tmp rfl) Ev.const ?hb) ?_; case hb => omega)
          | (refine' DA_take (i := 27) rfl (by kernel_rfl) (fun _ _ _ _ h => (kp _ _ _ h).elim) rfl (QV_eql_n (Ev.tmp rfl) Ev.const ?hb) ?_; case hb => omega)
          | (refine' DA_take (i := 27) rfl (by kernel_rfl) (fun _ _ _ _ h => (kp _ _ _ h).elim) rfl (QV_eql (Ev.tmp rfl) Ev.const) ?_)
        simp only [List.set_cons_zero, List.set_cons_succ, Int.toNat_natCast, Nat.reduceAdd, Nat.reduceMul, Int.reduceToNat, List.getElem_toArray, List.getElem_cons_zero, List.getElem_cons_succ, cells_agg, cells_int, cells_bool, cells_slice, cells_ptr, e1, decide_true, hb', hb'']
    first
      | (refine' DA_skip (i := 28) rfl (by kernel_rfl) (fun _ _ _ _ h => (kp _ _ _ h).elim) rfl ?_; simp only [List.set_cons_zero, List.set_cons_succ, Int.toNat_natCast, Nat.reduceAdd, Nat.reduceMul, Int.reduceToNat, List.getElem_toArray, List.getElem_cons_zero, List.getElem_cons_succ, cells_agg, cells_int, cells_bool, cells_slice, cells_ptr, e1, decide_true, hb', hb''])
      |
        refine' DA_take (i := 28) rfl (by kernel_rfl) (fun _ _ _ _ h => (kp _ _ _ h).elim) rfl (QV_pick (Ev.tmp rfl) Ev.const (Ev.tmp rfl)) ?_
        simp only [if_true, if_false, Bool.false_eq_true, reduceIte, List.set_cons_zero, List.set_cons_succ, Int.toNat_natCast, Nat.reduceAdd, Nat.reduceMul, Int.reduceToNat, List.getElem_toArray, List.getElem_cons_zero, List.getElem_cons_succ, cells_agg, cells_int, cells_bool, cells_slice, cells_ptr, e1, decide_true, hb', hb'']
    first
      | (refine' DA_skip (i := 29) rfl (by kernel_rfl) (fun _ _ _ _ h => (kp _ _ _ h).elim) rfl ?_; simp only [List.set_cons_zero, List.set_cons_succ, Int.toNat_natCast, Nat.reduceAdd, Nat.reduceMul, Int.reduceToNat, List.getElem_toArray, List.getElem_cons_zero, List.getElem_cons_succ, cells_agg, cells_int, cells_bool, cells_slice, cells_ptr, e1, decide_true, hb', hb''])
      |
        refine' DA_take (i := 29) rfl (by kernel_rfl) (fun _ _ _ _ h => (kp _ _ _ h).elim) rfl (QV_move (Ev.tmp rfl)) ?_
        simp only [List.set_cons_zero, List.set_cons_succ, Int.toNat_natCast, Nat.reduceAdd, Nat.reduceMul, Int.reduceToNat, List.getElem_toArray, List.getElem_cons_zero, List.getElem_cons_succ, cells_agg, cells_int, cells_bool, cells_slice, cells_ptr, e1, decide_true, hb', hb'']
    first
      | (refine' DA_skip (i := 30) rfl (by kernel_rfl) (fun _ _ _ _ h => (kp _ _ _ h).elim) rfl ?_; simp only [List.set_cons_zero, List.set_cons_succ, Int.toNat_natCast, Nat.reduceAdd, Nat.reduceMul, Int.reduceToNat, List.getElem_toArray, List.getElem_cons_zero, List.getElem_cons_succ, cells_agg, cells_int, cells_bool, cells_slice, cells_ptr, e1, decide_true, hb', hb''])
      |
        refine' DA_take (i := 30) rfl (by kernel_rfl) (fun _ _ _ _ h => (kp _ _ _ h).elim) rfl (QV_field (Ev.tmp rfl) (fld107_1 _ _)) ?_
        simp only [List.set_cons_zero, List.set_cons_succ, Int.toNat_natCast, Nat.reduceAdd, Nat.reduceMul, Int.reduceToNat, List.getElem_toArray, List.getElem_cons_zero, List.getElem_cons_succ, cells_agg, cells_int, cells_bool, cells_slice, cells_ptr, e1, decide_true, hb', hb'']
    first
      | (refine' DA_skip (i := 31) rfl (by kernel_rfl) (fun _ _ _ _ h => (kp _ _ _ h).elim) rfl ?_; simp only [List.set_cons_zero, List.set_cons_succ, Int.toNat_natCast, Nat.reduceAdd, Nat.reduceMul, Int.reduceToNat, List.getElem_toArray, List.getElem_cons_zero, List.getElem_cons_succ, cells_agg, cells_int, cells_bool, cells_slice, cells_ptr, e1, decide_true, hb', hb''])
      |
        first
          | (refine' DA_take (i := 31) rfl (by kernel_rfl) (fun _ _ _ _ h => (kp _ _ _ h).elim) rfl (QV_load1 (Ev.tmp rfl) Try.isAgg3 ?hm ?hv) ?_; (case hm => (repeat (first | exact List.Mem.head _ | assumption | exact List.mem_of_getElem? (by assumption) | exact mem_set_self (by assumption) | apply List.Mem.tail))); (case hv => (first | rfl | assumption)))
          | (refine' DA_take (i := 31) rfl (by kernel_rfl) (fun _ _ _ _ h => (kp _ _ _ h).elim) rfl (QV_loadR (Ev.tmp rfl) ?hp Try.isAgg3 ?hs ?hv) ?_; (case hs => (first | assumption | (refine' Sl.sub (by assumption) ?_; (repeat (first | with_reducible exact List.Sublist.refl _ | with_reducible apply List.Sublist.cons_cons | with_reducible apply List.Sublist.cons))))); (case hv => (first  | rfl | assumption)); (case hp => (first | rfl | omega)))
        simp only [List.set_cons_zero, List.set_cons_succ, Int.toNat_natCast, Nat.reduceAdd, Nat.reduceMul, Int.reduceToNat, List.getElem_toArray, List.getElem_cons_zero, List.getElem_cons_succ, cells_agg, cells_int, cells_bool, cells_slice, cells_ptr, e1, decide_true, hb', hb'']
    first
      | (refine' DA_skip (i := 32) rfl (by kernel_rfl) (fun _ _ _ _ h => (kp _ _ _ h).elim) rfl ?_; simp only [List.set_cons_zero, List.set_cons_succ, Int.toNat_natCast, Nat.reduceAdd, Nat.reduceMul, Int.reduceToNat, List.getElem_toArray, List.getElem_cons_zero, List.getElem_cons_succ, cells_agg, cells_int, cells_bool, cells_slice, cells_ptr, e1, decide_true, hb', hb''])
      |
        refine' DA_take (i := 32) rfl (by kernel_rfl) (fun _ _ _ _ h => (kp _ _ _ h).elim) rfl (QV_buildS (EvL.cons Ev.const (EvL.cons (Ev.tmp rfl) EvL.nil)) Try.zeroValue107 Try.underlying107 (plc107 _ Try.underlying107) rfl) ?_
        simp only [putAll, offOf, List.map_cons, List.map_nil, List.zip_cons_cons, List.zip_nil_left, List.zip_nil_right, List.getElem?_cons_zero, List.getElem?_cons_succ, List.set_cons_zero, List.set_cons_succ, Int.toNat_natCast, Nat.reduceAdd, Nat.reduceMul, Int.reduceToNat, List.getElem_toArray, List.getElem_cons_zero, List.getElem_cons_succ, cells_agg, cells_int, cells_bool, cells_slice, cells_ptr, e1, decide_true, hb', hb'']
    first
      | (refine' DA_skip (i := 33) rfl (by kernel_rfl) (fun _ _ _ _ h => (kp _ _ _ h).elim) rfl ?_; simp only [List.set_cons_zero, List.set_cons_succ, Int.toNat_natCast, Nat.reduceAdd, Nat.reduceMul, Int.reduceToNat, List.getElem_toArray, List.getElem_cons_zero, List.getElem_cons_succ, cells_agg, cells_int, cells_bool, cells_slice, cells_ptr, e1, decide_true, hb', hb''])
      |
        first
          | (refine' DA_take (i := 33) rfl (by kernel_rfl) (fun _ _ _ _ h => (kp _ _ _ h).elim) rfl (QV_loadA (Ev.tmp rfl) Try.isAgg107 Try.sizeOf107 ?hm ?hv ?hn) ?_; (case hm => (repeat (first | exact List.Mem.head _ | assumption | exact List.mem_of_getElem? (by assumption) | exact mem_set_self (by assumption) | apply List.Mem.tail))); (case hv => (simp only [List.toList_toArray, List.take_succ_cons, List.take_zero, List.drop_succ_cons, List.drop_zero, List.take_nil]; rfl)); (case hn => rfl))
          | (refine' DA_take (i := 33) rfl (by kernel_rfl) (fun _ _ _ _ h => (kp _ _ _ h).elim) rfl (QV_loadRA (Ev.tmp rfl) ?hp Try.isAgg107 Try.sizeOf107 ?hs ?hv ?hn) ?_; (case hs => (first | assumption | (refine' Sl.sub (by assumption) ?_; (repeat (first | with_reducible exact List.Sublist.refl _ | with_reducible apply List.Sublist.cons_cons | with_reducible apply List.Sublist.cons))))); (case hv => (first  | rfl)); (case hp => (first | rfl | omega)); (case hn => rfl))
        simp only [List.set_cons_zero, List.set_cons_succ, Int.toNat_natCast, Nat.reduceAdd, Nat.reduceMul, Int.reduceToNat, List.getElem_toArray, List.getElem_cons_zero, List.getElem_cons_succ, cells_agg, cells_int, cells_bool, cells_slice, cells_ptr, e1, decide_true, hb', hb'']
    refine' DA_take (i := 34) rfl (by kernel_rfl) (fun _ _ _ _ h => (kp _ _ _ h).elim) rfl (QV_bin (Ev.tmp rfl) (Ev.tmp rfl) (neq107 _ _ _ _ _ _)) ?_
    simp only [List.set_cons_zero, List.set_cons_succ, Int.toNat_natCast, Nat.reduceAdd, Nat.reduceMul, Int.reduceToNat, List.getElem_toArray, List.getElem_cons_zero, List.getElem_cons_succ, cells_agg, cells_int, cells_bool, cells_slice, cells_ptr, e1, decide_true, hb', hb'']
    first
      | (refine' DA_skip (i := 35) rfl (by kernel_rfl) (fun _ _ _ _ h => (kp _ _ _ h).elim) rfl ?_; simp only [List.set_cons_zero, List.set_cons_succ, Int.toNat_natCast, Nat.reduceAdd, Nat.reduceMul, Int.reduceToNat, List.getElem_toArray, List.getElem_cons_zero, List.getElem_cons_succ, cells_agg, cells_int, cells_bool, cells_slice, cells_ptr, e1, decide_true, hb', hb''])
      |
        refine' DA_take (i := 35) rfl (by kernel_rfl) (fun _ _ _ _ h => (kp _ _ _ h).elim) rfl (QV_pick (Ev.tmp rfl) Ev.const (Ev.tmp rfl)) ?_
        simp only [if_true, if_false, Bool.false_eq_true, reduceIte, List.set_cons_zero, List.set_cons_succ, Int.toNat_natCast, Nat.reduceAdd, Nat.reduceMul, Int.reduceToNat, List.getElem_toArray, List.getElem_cons_zero, List.getElem_cons_succ, cells_agg, cells_int, cells_bool, cells_slice, cells_ptr, e1, decide_true, hb', hb'']
    first
      | (refine' DA_skip (i := 36) rfl (by kernel_rfl) (fun _ _ _ _ h => (kp _ _ _ h).elim) rfl ?_; simp only [List.set_cons_zero, List.set_cons_succ, Int.toNat_natCast, Nat.reduceAdd, Nat.reduceMul, Int.reduceToNat, List.getElem_toArray, List.getElem_cons_zero, List.getElem_cons_succ, cells_agg, cells_int, cells_bool, cells_slice, cells_ptr, e1, decide_true, hb', hb''])
      |
        refine' DA_take (i := 36) rfl (by kernel_rfl) (fun _ _ _ _ h => (kp _ _ _ h).elim) rfl (QV_pick (Ev.tmp rfl) (Ev.tmp rfl) Ev.const) ?_
        simp only [if_true, if_false, Bool.false_eq_true, reduceIte, List.set_cons_zero, List.set_cons_succ, Int.toNat_natCast, Nat.reduceAdd, Nat.reduceMul, Int.reduceToNat, List.getElem_toArray, List.getElem_cons_zero, List.getElem_cons_succ, cells_agg, cells_int, cells_bool, cells_slice, cells_ptr, e1, decide_true, hb', hb'']
    refine' DA_take (i := 37) rfl (by kernel_rfl) (fun _ _ _ _ h => (kp _ _ _ h).elim) rfl (QV_pick (Ev.tmp rfl) Ev.const (Ev.tmp rfl)) ?_
    simp only [if_true, if_false, Bool.false_eq_true, reduceIte, List.set_cons_zero, List.set_cons_succ, Int.toNat_natCast, Nat.reduceAdd, Nat.reduceMul, Int.reduceToNat, List.getElem_toArray, List.getElem_cons_zero, List.getElem_cons_succ, cells_agg, cells_int, cells_bool, cells_slice, cells_ptr, e1, decide_true, hb', hb'']
    refine DA_done (by kernel_rfl) ?_
    try simp only [List.nil_append, List.cons_append]
    refine hN8 _ _ ?_
    try clear hN8 N8
    refine HC_no rfl rfl ?_
    refine HC_skip ?_
    refine hN7 _ _ ?_
    try clear hN7 N7
    refine HC_seq fun N10 hN10 => ?_
    refine HC_region ?_
    first
      | (refine' HL_q rfl rfl (QV_loadA (Ev.tmp rfl) Try.isAgg107 Try.sizeOf107 ?hm ?hv ?hn) ?_; (case hm => (repeat (first | exact List.Mem.head _ | assumption | exact List.mem_of_getElem? (by assumption) | exact mem_set_self (by assumption) | apply List.Mem.tail))); (case hv => (simp only [List.toList_toArray, List.take_succ_cons, List.take_zero, List.drop_succ_cons, List.drop_zero, List.take_nil]; rfl)); (case hn => rfl))
      | (refine' HL_q rfl rfl (QV_loadRA (Ev.tmp rfl) ?hp Try.isAgg107 Try.sizeOf107 ?hs ?hv ?hn) ?_; (case hs => (first | assumption | (refine' Sl.sub (by assumption) ?_; (repeat (first | with_reducible exact List.Sublist.refl _ | with_reducible apply List.Sublist.cons_cons | with_reducible apply List.Sublist.cons))))); (case hv => (first  | rfl)); (case hp => (first | rfl | omega)); (case hn => rfl))
    simp only [List.set_cons_zero, List.set_cons_succ, Int.toNat_natCast, Nat.reduceAdd, Nat.reduceMul, Int.reduceToNat, List.getElem_toArray, List.getElem_cons_zero, List.getElem_cons_succ, cells_agg, cells_int, cells_bool, cells_slice, cells_ptr, e1, decide_true, hb', hb'']
    refine' HL_s rfl rfl (SO_store (Ev.tmp rfl) (Ev.tmp rfl) Try.sizeOf107 ?hvs ?hn ?h1 ?hm ?hfit) ?_
    case hvs => rfl
    case hn => rfl
    case h1 => rfl
    case hm => (repeat (first | with_reducible exact Upd.head | exact Upd.at_ (by assumption) | exact Upd.set (by assumption) | apply Upd.tail))
    case hfit => simp
    rintro _ _ ⟨rfl, rfl⟩
    simp only [spl, List.set_cons_zero, List.set_cons_succ, List.toList_toArray, List.take_succ_cons, List.take_zero, List.drop_succ_cons, List.drop_zero, List.nil_append, List.cons_append, List.append_nil, List.length_cons, List.length_nil, Nat.zero_add, Nat.reduceAdd, List.take_nil, List.drop_nil]
    refine' HL_q rfl rfl (QV_assign Ev.const) ?_
    simp only [List.set_cons_zero, List.set_cons_succ, Int.toNat_natCast, Nat.reduceAdd, Nat.reduceMul, Int.reduceToNat, List.getElem_toArray, List.getElem_cons_zero, List.getElem_cons_succ, cells_agg, cells_int, cells_bool, cells_slice, cells_ptr, e1, decide_true, hb', hb'']
    refine HL_nil ?_
    refine hN10 _ _ ?_
    try clear hN10 N10
    refine HC_ret ?_
    try simp only [thenK, blockK]
    refine kr _ _ ?_
    refine' Lv_cell_tmp rfl rfl Try.isAgg107 Try.sizeOf107 ?hm ?hn rfl ?post ?le
    case hm => (repeat (first | exact List.Mem.head _ | assumption | exact List.mem_of_getElem? (by assumption) | exact mem_set_self (by assumption) | apply List.Mem.tail))
    case hn => rfl
    case post => exact ⟨rfl, rfl⟩
    case le => (first | with_reducible exact Le.refl | (refine Le.of ?_; (repeat (first | with_reducible exact Sp.refl | with_reducible exact Sp.nil | (apply Sp.pick; focus ((repeat (first | with_reducible exact Rm.head | with_reducible apply Rm.tail)); done)) | with_reducible refine Sp.drop ?_))))
end Go.Proofs.Ytcilfoicoambhaa
