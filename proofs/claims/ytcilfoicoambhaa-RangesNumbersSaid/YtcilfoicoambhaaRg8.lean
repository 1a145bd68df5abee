import Derived.Test.YtcilfoicoambhaaRg7
set_option linter.unusedVariables false
set_option linter.unusedSimpArgs false
set_option maxRecDepth 20000
set_option maxHeartbeats 4000000
namespace Go.Proofs.Ytcilfoicoambhaa
open Go Go.Hw Go.RowKit

variable {w0 : World} {R : List Asn}

theorem neq67 (x y : Operand) (a b c d : Int) (w : World) : (do eqGuard .neq 67 x y (.agg #[.int .u64 a, .int .u64 b]) (.agg #[.int .u64 c, .int .u64 d]); binOp .neq 67 (.agg #[.int .u64 a, .int .u64 b]) (.agg #[.int .u64 c, .int .u64 d])).run Try.prog w = .ok (.bool (decide (¬ (a = c ∧ b = d)))) w := by
  go_simp
  by_cases h1 : a = c <;> by_cases h2 : b = d <;> simp [h1, h2]

theorem rg_calls {a b : Int} : CH Try.prog w0 48 #[.int .u64 a, .int .u64 b] R fun v R' => v = .agg #[.int .u64 a, .int .u64 b] ∧ R' = R := by
  refine CH_of Try.func48 rfl fun K kn kr kp => ?_
  simp only [Try.ntmps48, List.size_toArray, List.length_cons, List.length_nil, Nat.reduceAdd, Nat.reduceSub, Array.replicate_succ, Array.replicate_zero, List.push_toArray, List.append_toArray, List.nil_append, List.cons_append]
  refine HC_seq fun N1 hN1 => ?_
  refine HC_region ?_
  refine' HL_s rfl rfl (SO_alloc Try.zeroValue67 rfl) ?_
  rintro _ _ ⟨g4, rfl, rfl⟩
  simp only [zS0, zS1, zTn, Nat.reduceAdd, Nat.reduceMul, Int.reduceToNat, zG0, zG1, zG2, zCa, zCi, zCb, zCs, zCf, zCn, zCt, zCm, zCp]
  refine HL_nil ?_
  refine hN1 _ _ ?_
  try clear hN1 N1
  refine HC_seq fun N2 hN2 => ?_
  refine HC_region ?_
  refine' HL_q rfl rfl (QV_move (Ev.tmp rfl)) ?_
  simp only [zS0, zS1, zTn, Nat.reduceAdd, Nat.reduceMul, Int.reduceToNat, zG0, zG1, zG2, zCa, zCi, zCb, zCs, zCf, zCn, zCt, zCm, zCp]
  refine' HL_q rfl rfl (QV_move (Ev.tmp rfl)) ?_
  simp only [zS0, zS1, zTn, Nat.reduceAdd, Nat.reduceMul, Int.reduceToNat, zG0, zG1, zG2, zCa, zCi, zCb, zCs, zCf, zCn, zCt, zCm, zCp]
  refine' HL_q rfl rfl (QV_buildS (EvL.cons (Ev.tmp rfl) (EvL.cons (Ev.tmp rfl) EvL.nil)) Try.zeroValue67 Try.underlying67 (plc67 _ Try.underlying67) rfl) ?_
  simp only [putAll, offOf, List.map_cons, List.map_nil, List.zip_cons_cons, List.zip_nil_left, List.zip_nil_right, List.getElem?_cons_zero, List.getElem?_cons_succ, zS0, zS1, zTn, Nat.reduceAdd, Nat.reduceMul, Int.reduceToNat, zG0, zG1, zG2, zCa, zCi, zCb, zCs, zCf, zCn, zCt, zCm, zCp]
  refine' HL_s rfl rfl (SO_store (Ev.tmp rfl) (Ev.tmp rfl) Try.sizeOf67 ?hvs ?hn ?h1 ?hm ?hfit) ?_
  case hvs => rfl
  case hn => rfl
  case h1 => rfl
  case hm => (repeat (first | with_reducible exact Upd.head | apply Upd.tail))
  case hfit => simp
  rintro _ _ ⟨rfl, rfl⟩
  simp only [spl, zS0, zS1, zLa, zTa, zTz, zDa, zDz, zAn, zAc, List.append_nil, List.length_cons, List.length_nil, Nat.reduceAdd, List.take_nil, List.drop_nil]
  refine HL_nil ?_
  refine hN2 _ _ ?_
  try clear hN2 N2
  refine HC_ret ?_
  try simp only [thenK, blockK]
  refine kr _ _ ?_
  refine' Lv_cell rfl rfl Try.isAgg67 Try.sizeOf67 ?hm ?hn ?post ?le
  case hm => (repeat (first | exact List.Mem.head _ | assumption | apply List.Mem.tail))
  case hn => rfl
  case post => exact ⟨rfl, rfl⟩
  case le => (first | with_reducible exact Le.refl | (refine Le.of ?_; (repeat (first | with_reducible exact Sp.refl | with_reducible exact Sp.nil | (apply Sp.pick; focus ((repeat (first | with_reducible exact Rm.head | with_reducible apply Rm.tail)); done)) | with_reducible refine Sp.drop ?_))))

theorem same_calls {A B : Option Addr} {c d : Nat} {l m : List Rg} (hl : Sl w0 R 2 A l.length (rgC l)) (hm : Sl w0 R 2 B m.length (rgC m)) (hn : l.length ≤ 9223372036854775807) (hn' : m.length ≤ 9223372036854775807) :
    CH Try.prog w0 38 #[.slice A l.length c, .slice B m.length d] R fun v R' => v = .bool (decide (l = m)) ∧ R' = R := by
  by_cases hlen : l.length = m.length
  · skip
    refine CH_of Try.func38 rfl fun K kn kr kp => ?_
    simp only [Try.ntmps38, List.size_toArray, List.length_cons, List.length_nil, Nat.reduceAdd, Nat.reduceSub, Array.replicate_succ, Array.replicate_zero, List.push_toArray, List.append_toArray, List.nil_append, List.cons_append]
    refine HC_seq fun N1 hN1 => ?_
    refine HC_region ?_
    refine' HL_q rfl rfl (QV_assign Ev.const) ?_
    simp only [zS0, zS1, zTn, Nat.reduceAdd, Nat.reduceMul, Int.reduceToNat, zG0, zG1, zG2, zCa, zCi, zCb, zCs, zCf, zCn, zCt, zCm, zCp]
    refine HL_nil ?_
    refine hN1 _ _ ?_
    try clear hN1 N1
    refine HC_seq fun N2 hN2 => ?_
    refine HC_seq fun N3 hN3 => ?_
    refine HC_region ?_
    refine' HL_q rfl rfl (QV_move (Ev.tmp rfl)) ?_
    simp only [zS0, zS1, zTn, Nat.reduceAdd, Nat.reduceMul, Int.reduceToNat, zG0, zG1, zG2, zCa, zCi, zCb, zCs, zCf, zCn, zCt, zCm, zCp]
    refine' HL_q rfl rfl (QV_len (Ev.tmp rfl) Try.underlying34) ?_
    simp only [zS0, zS1, zTn, Nat.reduceAdd, Nat.reduceMul, Int.reduceToNat, zG0, zG1, zG2, zCa, zCi, zCb, zCs, zCf, zCn, zCt, zCm, zCp]
    refine' HL_q rfl rfl (QV_move (Ev.tmp rfl)) ?_
    simp only [zS0, zS1, zTn, Nat.reduceAdd, Nat.reduceMul, Int.reduceToNat, zG0, zG1, zG2, zCa, zCi, zCb, zCs, zCf, zCn, zCt, zCm, zCp]
    refine' HL_q rfl rfl (QV_len (Ev.tmp rfl) Try.underlying34) ?_
    simp only [zS0, zS1, zTn, Nat.reduceAdd, Nat.reduceMul, Int.reduceToNat, zG0, zG1, zG2, zCa, zCi, zCb, zCs, zCf, zCn, zCt, zCm, zCp]
    first
      | (refine' HL_q rfl rfl (QV_neq_y (Ev.tmp rfl) (Ev.tmp rfl) ?hb) ?_; case hb => omega)
      | (refine' HL_q rfl rfl (QV_neq_n (Ev.tmp rfl) (Ev.tmp rfl) ?hb) ?_; case hb => omega)
      | (refine' HL_q rfl rfl (QV_neq (Ev.tmp rfl) (Ev.tmp rfl)) ?_)
    simp only [zS0, zS1, zTn, Nat.reduceAdd, Nat.reduceMul, Int.reduceToNat, zG0, zG1, zG2, zCa, zCi, zCb, zCs, zCf, zCn, zCt, zCm, zCp]
    refine HL_nil ?_
    refine hN3 _ _ ?_
    try clear hN3 N3
    refine HC_no rfl rfl ?_
    refine HC_skip ?_
    refine hN2 _ _ ?_
    try clear hN2 N2
    refine HC_seq fun N5 hN5 => ?_
    refine HC_seq fun N6 hN6 => ?_
    refine HC_region ?_
    refine' HL_q rfl rfl (QV_assign Ev.const) ?_
    simp only [zS0, zS1, zTn, Nat.reduceAdd, Nat.reduceMul, Int.reduceToNat, zG0, zG1, zG2, zCa, zCi, zCb, zCs, zCf, zCn, zCt, zCm, zCp]
    refine HL_nil ?_
    refine hN6 _ _ ?_
    try clear hN6 N6
    refine HC_block ?_
    refine HC_loop [5] [false, false, false, false, true, false, false, false, false, false, false, true, true, true, true, true, true, true, true, true, true, true, true, true, true, true] (fun gh vs RR => ∃ (i : Nat), vs = [(.int .i64 i)] ∧ gh = l.length - i ∧ i ≤ l.length ∧ l.take i = m.take i ∧ R = RR) ?start ?round
    case start =>
      simp only [List.map_cons, List.map_nil, List.getD_cons_zero, List.getD_cons_succ]
      refine' ⟨_, _, ?le, 0, rfl, rfl, (Nat.zero_le _), rfl, rfl⟩
      case le => (first | with_reducible exact Le.refl | (refine Le.of ?_; (repeat (first | with_reducible exact Sp.refl | with_reducible exact Sp.nil | (apply Sp.pick; focus ((repeat (first | with_reducible exact Rm.head | with_reducible apply Rm.tail)); done)) | with_reducible refine Sp.drop ?_))))
    case round =>
      rintro _ _ _ u ⟨i, rfl, rfl, hi, htk, rfl⟩ NL3 hL3
      simp only [setL, fill, List.set_cons_zero, List.set_cons_succ, Nat.reduceAdd]
      refine HC_seq fun N7 hN7 => ?_
      refine HC_seq fun N8 hN8 => ?_
      refine HC_region ?_
      refine' HL_q rfl rfl (QV_move (Ev.tmp rfl)) ?_
      simp only [zS0, zS1, zTn, Nat.reduceAdd, Nat.reduceMul, Int.reduceToNat, zG0, zG1, zG2, zCa, zCi, zCb, zCs, zCf, zCn, zCt, zCm, zCp]
      refine' HL_q rfl rfl (QV_move (Ev.tmp rfl)) ?_
      simp only [zS0, zS1, zTn, Nat.reduceAdd, Nat.reduceMul, Int.reduceToNat, zG0, zG1, zG2, zCa, zCi, zCb, zCs, zCf, zCn, zCt, zCm, zCp]
      refine' HL_q rfl rfl (QV_len (Ev.tmp rfl) Try.underlying34) ?_
      simp only [zS0, zS1, zTn, Nat.reduceAdd, Nat.reduceMul, Int.reduceToNat, zG0, zG1, zG2, zCa, zCi, zCb, zCs, zCf, zCn, zCt, zCm, zCp]
      first
        | (refine' HL_q rfl rfl (QV_lss_y (Ev.tmp rfl) (Ev.tmp rfl) ?hb) ?_; case hb => omega)
        | (refine' HL_q rfl rfl (QV_lss_n (Ev.tmp rfl) (Ev.tmp rfl) ?hb) ?_; case hb => omega)
        | (refine' HL_q rfl rfl (QV_lss (Ev.tmp rfl) (Ev.tmp rfl)) ?_)
      simp only [zS0, zS1, zTn, Nat.reduceAdd, Nat.reduceMul, Int.reduceToNat, zG0, zG1, zG2, zCa, zCi, zCb, zCs, zCf, zCn, zCt, zCm, zCp]
      refine HL_nil ?_
      refine hN8 _ _ ?_
      try clear hN8 N8
      refine HC_cond rfl (fun hc => ?_) (fun hc => ?_)
      · refine HC_skip ?_
        refine hN7 _ _ ?_
        try clear hN7 N7
        have hi' : i < l.length := by simpa using hc
        have hi2 : i < m.length := by omega
        obtain ⟨g1, o1, rfl⟩ := hl.addr (by omega)
        obtain ⟨g2, o2, rfl⟩ := hm.addr (by omega)
        have t1 : l.take (i + 1) = l.take i ++ [l[i]] := List.take_succ_eq_append_getElem hi'
        have t2 : m.take (i + 1) = m.take i ++ [m[i]] := List.take_succ_eq_append_getElem hi2
        have x1 := lget rg1_len l hi'
        have x2 := lget rg1_len m hi2
        have hne : l[i] ≠ m[i] → l ≠ m := fun h e => h (by subst e; rfl)
        obtain ⟨⟨p, q⟩, hp⟩ : ∃ z, l[i] = z := ⟨_, rfl⟩
        obtain ⟨⟨r, s⟩, hr⟩ : ∃ z, m[i] = z := ⟨_, rfl⟩
        rw [hp] at x1 t1 hne
        rw [hr] at x2 t2 hne
        simp only [rg1] at x1 x2
        refine HC_seq fun N9 hN9 => ?_
        refine HC_block ?_
        refine HC_seq fun N10 hN10 => ?_
        refine HC_draw 9 [] _ mixed rfl ?_
        refine' DA_take (i := 0) rfl (by kernel_rfl) (fun _ _ _ _ h => (kp _ _ _ h).elim) rfl (QV_move (Ev.tmp rfl)) ?_
        simp only [zS0, zS1, zTn, Nat.reduceAdd, Nat.reduceMul, Int.reduceToNat, zG0, zG1, zG2, zCa, zCi, zCb, zCs, zCf, zCn, zCt, zCm, zCp]
        refine' DA_take (i := 1) rfl (by kernel_rfl) (fun _ _ _ _ h => (kp _ _ _ h).elim) rfl (QV_move (Ev.tmp rfl)) ?_
        simp only [zS0, zS1, zTn, Nat.reduceAdd, Nat.reduceMul, Int.reduceToNat, zG0, zG1, zG2, zCa, zCi, zCb, zCs, zCf, zCn, zCt, zCm, zCp]
        refine' DA_take (i := 2) rfl (by kernel_rfl) (fun _ _ _ _ h => (kp _ _ _ h).elim) rfl (QV_index (Ev.tmp rfl) (Ev.tmp rfl) (indexAt_slice Try.underlying34 Try.sizeOf67 ?h0 ?h1)) ?_
        case h0 => omega
        case h1 => omega
        simp only [zS0, zS1, zTn, Nat.reduceAdd, Nat.reduceMul, Int.reduceToNat, zG0, zG1, zG2, zCa, zCi, zCb, zCs, zCf, zCn, zCt, zCm, zCp]
        refine' DA_take (i := 3) rfl (by kernel_rfl) (fun _ _ _ _ h => (kp _ _ _ h).elim) rfl (QV_loadRA (Ev.tmp rfl) rfl Try.isAgg67 Try.sizeOf67 hl x1 rfl) ?_
        simp only [zS0, zS1, zTn, Nat.reduceAdd, Nat.reduceMul, Int.reduceToNat, zG0, zG1, zG2, zCa, zCi, zCb, zCs, zCf, zCn, zCt, zCm, zCp]
        refine' DA_take (i := 4) rfl (by kernel_rfl) (fun _ _ _ _ h => (kp _ _ _ h).elim) rfl (QV_move (Ev.tmp rfl)) ?_
        simp only [zS0, zS1, zTn, Nat.reduceAdd, Nat.reduceMul, Int.reduceToNat, zG0, zG1, zG2, zCa, zCi, zCb, zCs, zCf, zCn, zCt, zCm, zCp]
        refine' DA_take (i := 5) rfl (by kernel_rfl) (fun _ _ _ _ h => (kp _ _ _ h).elim) rfl (QV_move (Ev.tmp rfl)) ?_
        simp only [zS0, zS1, zTn, Nat.reduceAdd, Nat.reduceMul, Int.reduceToNat, zG0, zG1, zG2, zCa, zCi, zCb, zCs, zCf, zCn, zCt, zCm, zCp]
        refine' DA_take (i := 6) rfl (by kernel_rfl) (fun _ _ _ _ h => (kp _ _ _ h).elim) rfl (QV_index (Ev.tmp rfl) (Ev.tmp rfl) (indexAt_slice Try.underlying34 Try.sizeOf67 ?h0 ?h1)) ?_
        case h0 => omega
        case h1 => omega
        simp only [zS0, zS1, zTn, Nat.reduceAdd, Nat.reduceMul, Int.reduceToNat, zG0, zG1, zG2, zCa, zCi, zCb, zCs, zCf, zCn, zCt, zCm, zCp]
        refine' DA_take (i := 7) rfl (by kernel_rfl) (fun _ _ _ _ h => (kp _ _ _ h).elim) rfl (QV_loadRA (Ev.tmp rfl) rfl Try.isAgg67 Try.sizeOf67 hm x2 rfl) ?_
        simp only [zS0, zS1, zTn, Nat.reduceAdd, Nat.reduceMul, Int.reduceToNat, zG0, zG1, zG2, zCa, zCi, zCb, zCs, zCf, zCn, zCt, zCm, zCp]
        refine' DA_take (i := 8) rfl (by kernel_rfl) (fun _ _ _ _ h => (kp _ _ _ h).elim) rfl (QV_bin (Ev.tmp rfl) (Ev.tmp rfl) (neq67 _ _ _ _ _ _)) ?_
        simp only [zS0, zS1, zTn, Nat.reduceAdd, Nat.reduceMul, Int.reduceToNat, zG0, zG1, zG2, zCa, zCi, zCb, zCs, zCf, zCn, zCt, zCm, zCp]
        refine DA_done (by kernel_rfl) ?_
        try simp only [List.nil_append, List.cons_append]
        refine hN10 _ _ ?_
        try clear hN10 N10
        refine HC_cond rfl (fun hk => ?_) (fun hk => ?_)
        · skip
          refine HC_seq fun N11 hN11 => ?_
          refine HC_region ?_
          refine' HL_q rfl rfl (QV_assign Ev.const) ?_
          simp only [zS0, zS1, zTn, Nat.reduceAdd, Nat.reduceMul, Int.reduceToNat, zG0, zG1, zG2, zCa, zCi, zCb, zCs, zCf, zCn, zCt, zCm, zCp]
          refine HL_nil ?_
          refine hN11 _ _ ?_
          try clear hN11 N11
          have hk' : ((p, q) : Rg) ≠ (r, s) := by
            intro e
            injection e with e1 e2
            subst e1 e2
            simp at hk
          refine HC_ret ?_
          try simp only [thenK, blockK]
          refine kr _ _ ?_
          refine' Lv_tmp rfl rfl ?post ?le
          case post => exact ⟨by simp [hne hk'], rfl⟩
          case le => (first | with_reducible exact Le.refl | (refine Le.of ?_; (repeat (first | with_reducible exact Sp.refl | with_reducible exact Sp.nil | (apply Sp.pick; focus ((repeat (first | with_reducible exact Rm.head | with_reducible apply Rm.tail)); done)) | with_reducible refine Sp.drop ?_))))
        · refine HC_skip ?_
          have hk' : p = r ∧ q = s := by simp at hk; omega
          obtain ⟨rfl, rfl⟩ := hk'
          try simp only [blockK]
          refine hN9 _ _ ?_
          try clear hN9 N9
          refine HC_region ?_
          refine' HL_q rfl rfl (QV_move (Ev.tmp rfl)) ?_
          simp only [zS0, zS1, zTn, Nat.reduceAdd, Nat.reduceMul, Int.reduceToNat, zG0, zG1, zG2, zCa, zCi, zCb, zCs, zCf, zCn, zCt, zCm, zCp]
          refine' HL_q rfl rfl (QV_add (Ev.tmp rfl) Ev.const ?hr) ?_
          case hr => first | exact IntWalk.i64_in _ (by omega) | exact IntWalk.u64_in _ (by omega) | exact IntWalk.u8_in _ (by omega) | exact IntWalk.u32_in _ (by omega) | exact IntWalk.i64_quo _ _ (by omega) | exact IntWalk.u64_quo _ _ (by omega) | rfl
          simp only [zS0, zS1, zTn, Nat.reduceAdd, Nat.reduceMul, Int.reduceToNat, zG0, zG1, zG2, zCa, zCi, zCb, zCs, zCf, zCn, zCt, zCm, zCp]
          refine' HL_q rfl rfl (QV_assign (Ev.tmp rfl)) ?_
          simp only [zS0, zS1, zTn, Nat.reduceAdd, Nat.reduceMul, Int.reduceToNat, zG0, zG1, zG2, zCa, zCi, zCb, zCs, zCf, zCn, zCt, zCm, zCp]
          refine HL_nil ?_
          try simp only [thenK]
          refine' againL hL3 (Gets.cons rfl Gets.nil) ?lt ?ag1 ?le ⟨i + 1, rfl, rfl, by omega, by rw [t1, t2, htk], rfl⟩
          case ag1 => (simp only [setL, List.set_cons_zero, List.set_cons_succ]; exact (Ag.keep (Ag.keep (Ag.keep (Ag.keep (Ag.any (Ag.keep (Ag.keep (Ag.keep (Ag.keep (Ag.keep (Ag.keep (Ag.any (Ag.any (Ag.any (Ag.any (Ag.any (Ag.any (Ag.any (Ag.any (Ag.any (Ag.any (Ag.any (Ag.any (Ag.any (Ag.any (Ag.any Ag.nil)))))))))))))))))))))))))))
          case le => (first | with_reducible exact Le.refl | (refine Le.of ?_; (repeat (first | with_reducible exact Sp.refl | with_reducible exact Sp.nil | (apply Sp.pick; focus ((repeat (first | with_reducible exact Rm.head | with_reducible apply Rm.tail)); done)) | with_reducible refine Sp.drop ?_))))
          case lt => omega
      · refine HC_exit ?_
        simp only [thenK, blockK, reduceIte]
        have hi' : i = l.length := by simp at hc; omega
        subst hi'
        have e : l = m := by rw [hlen, List.take_length, ← hlen, List.take_length] at htk; exact htk
        refine hN5 _ _ ?_
        try clear hN5 N5
        refine HC_seq fun N12 hN12 => ?_
        refine HC_region ?_
        refine' HL_q rfl rfl (QV_assign Ev.const) ?_
        simp only [zS0, zS1, zTn, Nat.reduceAdd, Nat.reduceMul, Int.reduceToNat, zG0, zG1, zG2, zCa, zCi, zCb, zCs, zCf, zCn, zCt, zCm, zCp]
        refine HL_nil ?_
        refine hN12 _ _ ?_
        try clear hN12 N12
        refine HC_ret ?_
        try simp only [thenK, blockK]
        refine kr _ _ ?_
        refine' Lv_tmp rfl rfl ?post ?le
        case post => exact ⟨by simp [e], rfl⟩
        case le => (first | with_reducible exact Le.refl | (refine Le.of ?_; (repeat (first | with_reducible exact Sp.refl | with_reducible exact Sp.nil | (apply Sp.pick; focus ((repeat (first | with_reducible exact Rm.head | with_reducible apply Rm.tail)); done)) | with_reducible refine Sp.drop ?_))))
  · skip
    refine CH_of Try.func38 rfl fun K kn kr kp => ?_
    simp only [Try.ntmps38, List.size_toArray, List.length_cons, List.length_nil, Nat.reduceAdd, Nat.reduceSub, Array.replicate_succ, Array.replicate_zero, List.push_toArray, List.append_toArray, List.nil_append, List.cons_append]
    refine HC_seq fun N1 hN1 => ?_
    refine HC_region ?_
    refine' HL_q rfl rfl (QV_assign Ev.const) ?_
    simp only [zS0, zS1, zTn, Nat.reduceAdd, Nat.reduceMul, Int.reduceToNat, zG0, zG1, zG2, zCa, zCi, zCb, zCs, zCf, zCn, zCt, zCm, zCp]
    refine HL_nil ?_
    refine hN1 _ _ ?_
    try clear hN1 N1
    refine HC_seq fun N2 hN2 => ?_
    refine HC_seq fun N3 hN3 => ?_
    refine HC_region ?_
    refine' HL_q rfl rfl (QV_move (Ev.tmp rfl)) ?_
    simp only [zS0, zS1, zTn, Nat.reduceAdd, Nat.reduceMul, Int.reduceToNat, zG0, zG1, zG2, zCa, zCi, zCb, zCs, zCf, zCn, zCt, zCm, zCp]
    refine' HL_q rfl rfl (QV_len (Ev.tmp rfl) Try.underlying34) ?_
    simp only [zS0, zS1, zTn, Nat.reduceAdd, Nat.reduceMul, Int.reduceToNat, zG0, zG1, zG2, zCa, zCi, zCb, zCs, zCf, zCn, zCt, zCm, zCp]
    refine' HL_q rfl rfl (QV_move (Ev.tmp rfl)) ?_
    simp only [zS0, zS1, zTn, Nat.reduceAdd, Nat.reduceMul, Int.reduceToNat, zG0, zG1, zG2, zCa, zCi, zCb, zCs, zCf, zCn, zCt, zCm, zCp]
    refine' HL_q rfl rfl (QV_len (Ev.tmp rfl) Try.underlying34) ?_
    simp only [zS0, zS1, zTn, Nat.reduceAdd, Nat.reduceMul, Int.reduceToNat, zG0, zG1, zG2, zCa, zCi, zCb, zCs, zCf, zCn, zCt, zCm, zCp]
    first
      | (refine' HL_q rfl rfl (QV_neq_y (Ev.tmp rfl) (Ev.tmp rfl) ?hb) ?_; case hb => omega)
      | (refine' HL_q rfl rfl (QV_neq_n (Ev.tmp rfl) (Ev.tmp rfl) ?hb) ?_; case hb => omega)
      | (refine' HL_q rfl rfl (QV_neq (Ev.tmp rfl) (Ev.tmp rfl)) ?_)
    simp only [zS0, zS1, zTn, Nat.reduceAdd, Nat.reduceMul, Int.reduceToNat, zG0, zG1, zG2, zCa, zCi, zCb, zCs, zCf, zCn, zCt, zCm, zCp]
    refine HL_nil ?_
    refine hN3 _ _ ?_
    try clear hN3 N3
    refine HC_true rfl ?_
    refine HC_seq fun N4 hN4 => ?_
    refine HC_region ?_
    refine' HL_q rfl rfl (QV_assign Ev.const) ?_
    simp only [zS0, zS1, zTn, Nat.reduceAdd, Nat.reduceMul, Int.reduceToNat, zG0, zG1, zG2, zCa, zCi, zCb, zCs, zCf, zCn, zCt, zCm, zCp]
    refine HL_nil ?_
    refine hN4 _ _ ?_
    try clear hN4 N4
    refine HC_ret ?_
    try simp only [thenK, blockK]
    refine kr _ _ ?_
    refine' Lv_tmp rfl rfl ?post ?le
    case post => exact ⟨by have : l ≠ m := fun e => hlen (by rw [e]); simp [this], rfl⟩
    case le => (first | with_reducible exact Le.refl | (refine Le.of ?_; (repeat (first | with_reducible exact Sp.refl | with_reducible exact Sp.nil | (apply Sp.pick; focus ((repeat (first | with_reducible exact Rm.head | with_reducible apply Rm.tail)); done)) | with_reducible refine Sp.drop ?_))))

theorem sl_rg {g n : Nat} {l : List Rg} (h : pt g (.cells (rgC l).toArray 67 (0, 0)) ∈ R) (hn : n = l.length) : Sl w0 R 2 (some ⟨g, 0, none⟩) n (rgC l) := by
  subst hn
  have := Sl.of_pt (w0 := w0) (sz := 2) (n := l.length) h (by simpa using llen rg1_len l) (by simpa using lone rg1_one l)
  simpa using this
theorem opSpec_eval {inF : Bool → Bool → Bool} {ok : Prop} {l m out o : List Rg} {e : Nat} (h : OpSpec inF ok l m out e) (hok : ok) (hc : Canon o) (hl : o.length ≤ 64) (hm : ∀ n, inF (memR n l) (memR n m) = memR n o) : out = o ∧ e = 0 := by
  rcases h with ⟨h, _⟩ | ⟨_, o', h1, h2, h3⟩
  · exact absurd hok h
  · obtain rfl : o' = o := canon_ext h1 hc fun n => by rw [h2, hm]
    rcases h3 with ⟨h3, _⟩ | ⟨_, h3, h4⟩
    · omega
    · exact ⟨h4, h3⟩
theorem bs34b (p q p' q' : Value) (w : World) : (Instr.buildSlice 34 2 #[(0, .agg #[p, q]), (1, .agg #[p', q'])]).run Try.prog w = .ok (.slice (some ⟨w.heap.size, 0, none⟩) 2 2) (w.alloc (.cells #[p, q, p', q'] 67)) := by
  first | (go_simp; done) | (go_simp; rfl)
end Go.Proofs.Ytcilfoicoambhaa
