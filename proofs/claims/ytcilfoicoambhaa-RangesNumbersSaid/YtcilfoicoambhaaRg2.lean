import Derived.Test.YtcilfoicoambhaaRg1
set_option linter.unusedVariables false
set_option linter.unusedSimpArgs false
set_option maxRecDepth 20000
set_option maxHeartbeats 2000000
namespace Go.Proofs.Ytcilfoicoambhaa
open Go Go.Hw Go.RowKit

variable {w0 : World} {R : List Asn}

theorem bs34 (p q : Value) (w : World) : (Instr.buildSlice 34 1 #[(0, .agg #[p, q])]).run Try.prog w = .ok (.slice (some ⟨w.heap.size, 0, none⟩) 1 1) (w.alloc (.cells #[p, q] 67)) := by
  first | (go_simp; done) | (go_simp; rfl)

theorem end_calls {go gf frm at' : Nat} {v : Value} {out : List Rg} (h1 : 1 ≤ at') (h2 : at' ≤ 4611686018427387904) (hl : out.length ≤ 5000) :
    CH Try.prog w0 98 #[.int .u64 at', .pointer (some ⟨go, 0, none⟩), .pointer (some ⟨gf, 0, none⟩)] (pt go (.cells #[v] 34 (0, 0)) :: own 67 2 v out.length (rgC out) :: pt gf (.cells #[.int .u64 frm] 30 (0, 0)) :: R) fun _ R' =>
      ∃ v', R' = pt go (.cells #[v'] 34 (0, 0)) :: own 67 2 v' (out ++ [(frm, at' - 1)]).length (rgC (out ++ [(frm, at' - 1)])) :: pt gf (.cells #[.int .u64 frm] 30 (0, 0)) :: R := by
  have e1 : (at' : Int) - 1 = ((at' - 1 : Nat) : Int) := by omega
  refine CH_fact (fun w hw => own_shape hw (List.mem_cons_of_mem _ (List.mem_cons_self ..))) ?_
  rintro ⟨A', c', rfl, hnc, hcm, haddr⟩
  have hx : rgC (out ++ [(frm, at' - 1)]) = rgC out ++ [.int .u64 frm, .int .u64 (at' - 1 : Nat)] := by simp [rgC, rg1, List.flatMap_append]
  rw [List.length_append, List.length_singleton, hx]
  refine CH_of Try.func98 rfl fun K kn kr kp => ?_
  simp only [Try.ntmps98, List.size_toArray, List.length_cons, List.length_nil, Nat.reduceAdd, Nat.reduceSub, Array.replicate_succ, Array.replicate_zero, List.push_toArray, List.append_toArray, List.nil_append, List.cons_append]
  refine HC_region ?_
  first
    | (refine' HL_q rfl rfl (QV_load1 (Ev.tmp rfl) Try.isAgg34 ?hm ?hv) ?_; (case hm => (repeat (first | exact List.Mem.head _ | assumption | apply List.Mem.tail))); (case hv => (first | rfl | assumption)))
    | (refine' HL_q rfl rfl (QV_loadR (Ev.tmp rfl) ?hp Try.isAgg34 ?hs ?hv) ?_; (case hs => (first | assumption | (refine' Sl.sub (by assumption) ?_; (repeat (first | with_reducible exact List.Sublist.refl _ | with_reducible exact List.nil_sublist _ | with_reducible apply List.Sublist.cons_cons | with_reducible apply List.Sublist.cons))))); (case hv => (first  | rfl | assumption)); (case hp => (first | rfl | omega)))
  simp only [zS0, zS1, zTn, Nat.reduceAdd, Nat.reduceMul, Int.reduceToNat, zG0, zG1, zG2, zCa, zCi, zCb, zCs, zCf, zCn, zCt, zCm, zCp, e1]
  first
    | (refine' HL_q rfl rfl (QV_load1 (Ev.tmp rfl) Try.isAgg30 ?hm ?hv) ?_; (case hm => (repeat (first | exact List.Mem.head _ | assumption | apply List.Mem.tail))); (case hv => (first | rfl | assumption)))
    | (refine' HL_q rfl rfl (QV_loadR (Ev.tmp rfl) ?hp Try.isAgg30 ?hs ?hv) ?_; (case hs => (first | assumption | (refine' Sl.sub (by assumption) ?_; (repeat (first | with_reducible exact List.Sublist.refl _ | with_reducible exact List.nil_sublist _ | with_reducible apply List.Sublist.cons_cons | with_reducible apply List.Sublist.cons))))); (case hv => (first  | rfl | assumption)); (case hp => (first | rfl | omega)))
  simp only [zS0, zS1, zTn, Nat.reduceAdd, Nat.reduceMul, Int.reduceToNat, zG0, zG1, zG2, zCa, zCi, zCb, zCs, zCf, zCn, zCt, zCm, zCp, e1]
  refine' HL_q rfl rfl (QV_move (Ev.tmp rfl)) ?_
  simp only [zS0, zS1, zTn, Nat.reduceAdd, Nat.reduceMul, Int.reduceToNat, zG0, zG1, zG2, zCa, zCi, zCb, zCs, zCf, zCn, zCt, zCm, zCp, e1]
  refine' HL_q rfl rfl (QV_sub (Ev.tmp rfl) Ev.const ?hr) ?_
  case hr => first | exact IntWalk.i64_in _ (by omega) | exact IntWalk.u64_in _ (by omega) | exact IntWalk.u8_in _ (by omega) | exact IntWalk.u32_in _ (by omega) | exact IntWalk.i64_quo _ _ (by omega) | exact IntWalk.u64_quo _ _ (by omega) | rfl
  simp only [zS0, zS1, zTn, Nat.reduceAdd, Nat.reduceMul, Int.reduceToNat, zG0, zG1, zG2, zCa, zCi, zCb, zCs, zCf, zCn, zCt, zCm, zCp, e1]
  refine' HL_q rfl rfl (QV_buildS (EvL.cons (Ev.tmp rfl) (EvL.cons (Ev.tmp rfl) EvL.nil)) Try.zeroValue67 Try.underlying67 (plc67 _ Try.underlying67) rfl) ?_
  simp only [putAll, offOf, List.map_cons, List.map_nil, List.zip_cons_cons, List.zip_nil_left, List.zip_nil_right, List.getElem?_cons_zero, List.getElem?_cons_succ, zS0, zS1, zTn, Nat.reduceAdd, Nat.reduceMul, Int.reduceToNat, zG0, zG1, zG2, zCa, zCi, zCb, zCs, zCf, zCn, zCt, zCm, zCp, e1]
  -- operation 5
  refine' HL_s rfl rfl (SO_buildSlice (EvL.cons (Ev.tmp rfl) EvL.nil) ?hr) ?_
  case hr => exact bs34 _ _
  rintro _ _ ⟨g9, rfl, rfl⟩
  simp only [zS0, zS1, zTn, Nat.reduceAdd, Nat.reduceMul, Int.reduceToNat, zG0, zG1, zG2, zCa, zCi, zCb, zCs, zCf, zCn, zCt, zCm, zCp, e1]
  -- operation 6
  refine' HL_s rfl rfl (SO_append (news := [.int .u64 frm, .int .u64 (at' - 1 : Nat)]) (Ev.tmp rfl) (Ev.tmp rfl) Try.underlying34 inf67 rfl (by decide) ?hsrc ?hrep ?hb ?hb0) ?_
  case hsrc => exact Sl.of_pt (by repeat (first | exact List.Mem.head _ | assumption | apply List.Mem.tail)) rfl (by intro u hu; exact rg1_one (frm, at' - 1) u hu)
  case hrep => intro v'; (repeat (first | with_reducible exact Rep.head | apply Rep.tail))
  case hb => omega
  case hb0 => (simp only [maxLen]; omega)
  rintro v10 _ rfl
  refine' HL_fact (fun w hw => own_shape hw (List.mem_cons_of_mem _ (List.mem_cons_of_mem _ (List.mem_cons_self ..)))) ?_
  rintro ⟨A10, c10, rfl, _, _, _⟩
  simp only [zS0, zS1, zTn, Nat.reduceAdd, Nat.reduceMul, Int.reduceToNat, zG0, zG1, zG2, zCa, zCi, zCb, zCs, zCf, zCn, zCt, zCm, zCp, e1]
  refine' HL_s rfl rfl (SO_store (Ev.tmp rfl) (Ev.tmp rfl) Try.sizeOf34 ?hvs ?hn ?h1 ?hm ?hfit) ?_
  case hvs => rfl
  case hn => rfl
  case h1 => rfl
  case hm => (repeat (first | with_reducible exact Upd.head | apply Upd.tail))
  case hfit => simp
  rintro _ _ ⟨rfl, rfl⟩
  simp only [spl, zS0, zS1, zLa, zTa, zTz, zDa, zDz, zAn, zAc, List.append_nil, List.length_cons, List.length_nil, Nat.reduceAdd, List.take_nil, List.drop_nil]
  refine HL_nil ?_
  try simp only [thenK, blockK, reduceIte]
  refine kn _ _ ?_
  refine' Lv_none rfl ?post ?le
  case post => exact ⟨.slice A10 (out.length + 1) c10, rfl⟩
  case le => (first | with_reducible exact Le.refl | (refine Le.of ?_; (repeat (first | with_reducible exact Sp.refl | with_reducible exact Sp.nil | (apply Sp.pick; focus ((repeat (first | with_reducible exact Rm.head | with_reducible apply Rm.tail)); done)) | with_reducible refine Sp.drop ?_))))
end Go.Proofs.Ytcilfoicoambhaa
