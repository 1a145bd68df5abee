import Derived.Test.YtcilfoicoambhaaSo5
set_option linter.unusedVariables false
set_option linter.unusedSimpArgs false
set_option maxRecDepth 20000
set_option maxHeartbeats 2000000
namespace Go.Proofs.Ytcilfoicoambhaa
open Go Go.Hw Go.RowKit

variable {w0 : World} {R : List Asn}

/-- Each run of bs places is sorted. -/
def RunS (bs n : Nat) (f : Nat → Turn) : Prop := ∀ q i j, q * bs ≤ i → i < j → j < q * bs + bs → j < n → tkey (f i) ≤ tkey (f j)
/-- The first p pairs of runs are merged. -/
structure Half (bs n p : Nat) (f : Nat → Turn) : Prop where
  did : ∀ q, q < p → ∀ i j, q * (2 * bs) ≤ i → i < j → j < q * (2 * bs) + 2 * bs → j < n → tkey (f i) ≤ tkey (f j)
  todo : ∀ q, 2 * p ≤ q → ∀ i j, q * bs ≤ i → i < j → j < q * bs + bs → j < n → tkey (f i) ≤ tkey (f j)
theorem half_start {bs n : Nat} {f : Nat → Turn} (h : RunS bs n f) : Half bs n 0 f := ⟨fun q hq => by omega, fun q _ => h q⟩
theorem dbl (p bs : Nat) : (2 * p) * bs = p * (2 * bs) := by rw [Nat.mul_comm 2 p, Nat.mul_assoc]
theorem half_runs {bs n p a : Nat} {f : Nat → Turn} (h : Half bs n p f) (ha : a = p * (2 * bs)) : (a + bs ≤ n → SrtF tkey a (a + bs) f) ∧ (∀ b, b ≤ n → b ≤ a + 2 * bs → SrtF tkey (a + bs) b f) ∧ (∀ b, b ≤ n → b ≤ a + bs → SrtF tkey a b f) := by
  have e1 : (2 * p) * bs = a := by rw [dbl, ha]
  have e2 : (2 * p + 1) * bs = a + bs := by rw [Nat.add_mul, e1, Nat.one_mul]
  refine ⟨fun hn i j x y z => ?_, fun b hb hb2 i j x y z => ?_, fun b hb hb2 i j x y z => ?_⟩
  · exact h.todo (2 * p) (Nat.le_refl _) i j (by rw [e1]; exact x) y (by rw [e1]; exact z) (by omega)
  · exact h.todo (2 * p + 1) (by omega) i j (by rw [e2]; exact x) y (by rw [e2]; omega) (by omega)
  · exact h.todo (2 * p) (Nat.le_refl _) i j (by rw [e1]; exact x) y (by rw [e1]; omega) (by omega)
theorem half_step {bs n p a : Nat} {f f' : Nat → Turn} (h : Half bs n p f) (ha : a = p * (2 * bs)) (hi : InF a (a + 2 * bs) f f') (hs : SrtF tkey a (a + 2 * bs) f') : Half bs n (p + 1) f' := by
  refine ⟨fun q hq i j x y z w => ?_, fun q hq i j x y z w => ?_⟩
  · rcases Nat.lt_or_ge q p with h1 | h1
    · have h2 : (q + 1) * (2 * bs) ≤ p * (2 * bs) := Nat.mul_le_mul_right _ h1
      rw [Nat.add_mul, Nat.one_mul] at h2
      rw [hi.1 i (by omega), hi.1 j (by omega)]
      exact h.did q h1 i j x y z w
    · obtain rfl : q = p := by omega
      exact hs i j (by omega) y (by omega)
  · have h2 : (2 * (p + 1)) * bs ≤ q * bs := Nat.mul_le_mul_right _ hq
    rw [dbl, Nat.add_mul, Nat.one_mul] at h2
    rw [hi.1 i (by omega), hi.1 j (by omega)]
    exact h.todo q (by omega) i j x y z w
theorem half_end {bs n p a : Nat} {f f' : Nat → Turn} (h : Half bs n p f) (ha : a = p * (2 * bs)) (hn : n < a + 2 * bs) (hi : InF a n f f') (hs : SrtF tkey a n f') : RunS (2 * bs) n f' := by
  intro q i j x y z w
  rcases Nat.lt_trichotomy q p with h1 | h1 | h1
  · have h2 : (q + 1) * (2 * bs) ≤ p * (2 * bs) := Nat.mul_le_mul_right _ h1
    rw [Nat.add_mul, Nat.one_mul] at h2
    rw [hi.1 i (by omega), hi.1 j (by omega)]
    exact h.did q h1 i j x y z w
  · subst h1
    exact hs i j (by omega) y w
  · have h2 : (p + 1) * (2 * bs) ≤ q * (2 * bs) := Nat.mul_le_mul_right _ h1
    rw [Nat.add_mul, Nat.one_mul] at h2
    omega

theorem stable_calls {g c n : Nat} {f : Nat → Turn} (hn : n ≤ 500000) :
    CH Try.prog w0 112 #[.slice (some ⟨g, 0, none⟩) n c, .int .i64 n, .func (.func 110) #[] #[]] (own 172 3 (.slice (some ⟨g, 0, none⟩) n c) n (rowF tc n f) :: R) fun v R' =>
      ∃ f', R' = own 172 3 (.slice (some ⟨g, 0, none⟩) n c) n (rowF tc n f') :: R ∧ SrtF tkey 0 n f' ∧ PmF n f f' := by
  refine CH_of Try.func112 rfl fun K kn kr kp => ?_
  simp only [Try.ntmps112, List.size_toArray, List.length_cons, List.length_nil, Nat.reduceAdd, Nat.reduceSub, Array.replicate_succ, Array.replicate_zero, List.push_toArray, List.append_toArray, List.nil_append, List.cons_append]
  refine HC_seq fun N1 hN1 => ?_
  refine HC_region ?_
  refine' HL_q rfl rfl (QV_assign Ev.const) ?_
  simp only [zS0, zS1, zTn, Nat.reduceAdd, Nat.reduceMul, Int.reduceToNat, zG0, zG1, zG2, zCa, zCi, zCb, zCs, zCf, zCn, zCt, zCm, zCp]
  refine HL_nil ?_
  refine hN1 _ _ ?_
  try clear hN1 N1
  refine HC_seq fun N2 hN2 => ?_
  refine HC_region ?_
  refine' HL_q rfl rfl (QV_move (Ev.tmp rfl)) ?_
  simp only [zS0, zS1, zTn, Nat.reduceAdd, Nat.reduceMul, Int.reduceToNat, zG0, zG1, zG2, zCa, zCi, zCb, zCs, zCf, zCn, zCt, zCm, zCp]
  refine' HL_q rfl rfl (QV_assign Ev.const) ?_
  simp only [zS0, zS1, zTn, Nat.reduceAdd, Nat.reduceMul, Int.reduceToNat, zG0, zG1, zG2, zCa, zCi, zCb, zCs, zCf, zCn, zCt, zCm, zCp]
  refine' HL_q rfl rfl (QV_assign (Ev.tmp rfl)) ?_
  simp only [zS0, zS1, zTn, Nat.reduceAdd, Nat.reduceMul, Int.reduceToNat, zG0, zG1, zG2, zCa, zCi, zCb, zCs, zCf, zCn, zCt, zCm, zCp]
  refine HL_nil ?_
  refine hN2 _ _ ?_
  try clear hN2 N2
  refine HC_seq fun N3 hN3 => ?_
  refine HC_block ?_
  refine HC_loop [7, 8] [false, false, false, false, false, false, false, false, false, false, false, true, true, true, true, true, true, true, true, true, true, true, true] (fun gh vs RR => ∃ (p : Nat) (a : Nat) (b : Nat) (h : Nat → Turn), vs = [(.int .i64 a), (.int .i64 b)] ∧ gh = n + 20 - a ∧ a = p * 20 ∧ b = a + 20 ∧ a ≤ n ∧ (∀ i j, i < j → j < a → i / 20 = j / 20 → tkey (h i) ≤ tkey (h j)) ∧ PmF n f h ∧ RR = own 172 3 (.slice (some ⟨g, 0, none⟩) n c) n (rowF tc n h) :: R) ?start ?round
  case start =>
    simp only [List.map_cons, List.map_nil, List.getD_cons_zero, List.getD_cons_succ]
    refine' ⟨_, _, ?le, 0, 0, 20, f, rfl, rfl, rfl, rfl, (Nat.zero_le _), (fun i j h1 h2 => by omega), PmF.refl, rfl⟩
    case le => (first | with_reducible exact Le.refl | (refine Le.of ?_; (repeat (first | with_reducible exact Sp.refl | with_reducible exact Sp.nil | (apply Sp.pick; focus ((repeat (first | with_reducible exact Rm.head | with_reducible apply Rm.tail)); done)) | with_reducible refine Sp.drop ?_))))
  case round =>
    rintro _ _ _ u ⟨p, a, b, h, rfl, rfl, ha, hb, hp, hrun, hpm, rfl⟩ NL1 hL1
    simp only [setL, fill, List.set_cons_zero, List.set_cons_succ, Nat.reduceAdd]
    refine HC_seq fun N4 hN4 => ?_
    refine HC_seq fun N5 hN5 => ?_
    refine HC_region ?_
    refine' HL_q rfl rfl (QV_move (Ev.tmp rfl)) ?_
    simp only [zS0, zS1, zTn, Nat.reduceAdd, Nat.reduceMul, Int.reduceToNat, zG0, zG1, zG2, zCa, zCi, zCb, zCs, zCf, zCn, zCt, zCm, zCp]
    refine' HL_q rfl rfl (QV_move (Ev.tmp rfl)) ?_
    simp only [zS0, zS1, zTn, Nat.reduceAdd, Nat.reduceMul, Int.reduceToNat, zG0, zG1, zG2, zCa, zCi, zCb, zCs, zCf, zCn, zCt, zCm, zCp]
    first
      | (refine' HL_q rfl rfl (QV_leq_y (Ev.tmp rfl) (Ev.tmp rfl) ?hb) ?_; case hb => omega)
      | (refine' HL_q rfl rfl (QV_leq_n (Ev.tmp rfl) (Ev.tmp rfl) ?hb) ?_; case hb => omega)
      | (refine' HL_q rfl rfl (QV_leq (Ev.tmp rfl) (Ev.tmp rfl)) ?_)
    simp only [zS0, zS1, zTn, Nat.reduceAdd, Nat.reduceMul, Int.reduceToNat, zG0, zG1, zG2, zCa, zCi, zCb, zCs, zCf, zCn, zCt, zCm, zCp]
    refine HL_nil ?_
    refine hN5 _ _ ?_
    try clear hN5 N5
    refine HC_cond rfl (fun hc => ?_) (fun hc => ?_)
    · refine HC_skip ?_
      refine hN4 _ _ ?_
      try clear hN4 N4
      have hc' : b ≤ n := by simpa using hc
      refine HC_block ?_
      refine HC_seq fun N6 hN6 => ?_
      refine HC_region ?_
      refine' HL_q rfl rfl (QV_move (Ev.tmp rfl)) ?_
      simp only [zS0, zS1, zTn, Nat.reduceAdd, Nat.reduceMul, Int.reduceToNat, zG0, zG1, zG2, zCa, zCi, zCb, zCs, zCf, zCn, zCt, zCm, zCp]
      refine' HL_q rfl rfl (QV_move (Ev.tmp rfl)) ?_
      simp only [zS0, zS1, zTn, Nat.reduceAdd, Nat.reduceMul, Int.reduceToNat, zG0, zG1, zG2, zCa, zCi, zCb, zCs, zCf, zCn, zCt, zCm, zCp]
      refine' HL_q rfl rfl (QV_move (Ev.tmp rfl)) ?_
      simp only [zS0, zS1, zTn, Nat.reduceAdd, Nat.reduceMul, Int.reduceToNat, zG0, zG1, zG2, zCa, zCi, zCb, zCs, zCf, zCn, zCt, zCm, zCp]
      refine' HL_q rfl rfl (QV_move (Ev.tmp rfl)) ?_
      simp only [zS0, zS1, zTn, Nat.reduceAdd, Nat.reduceMul, Int.reduceToNat, zG0, zG1, zG2, zCa, zCi, zCb, zCs, zCf, zCn, zCt, zCm, zCp]
      -- operation 4
      refine' HL_call rfl en113 (call_fn (EvL.cons (Ev.tmp rfl) (EvL.cons (Ev.tmp rfl) (EvL.cons (Ev.tmp rfl) (EvL.cons (Ev.tmp rfl) EvL.nil)))).evs) ((insertion_calls (a := a) (b := b) (by omega) hc' (by omega))) ?_
      rintro _ _ ⟨h', rfl, z1, z2, z3⟩
      simp only [zS0, zS1, zTn, Nat.reduceAdd, Nat.reduceMul, Int.reduceToNat, zG0, zG1, zG2, zCa, zCi, zCb, zCs, zCf, zCn, zCt, zCm, zCp]
      refine HL_nil ?_
      refine hN6 _ _ ?_
      try clear hN6 N6
      refine HC_seq fun N7 hN7 => ?_
      refine HC_region ?_
      refine' HL_q rfl rfl (QV_move (Ev.tmp rfl)) ?_
      simp only [zS0, zS1, zTn, Nat.reduceAdd, Nat.reduceMul, Int.reduceToNat, zG0, zG1, zG2, zCa, zCi, zCb, zCs, zCf, zCn, zCt, zCm, zCp]
      refine' HL_q rfl rfl (QV_assign (Ev.tmp rfl)) ?_
      simp only [zS0, zS1, zTn, Nat.reduceAdd, Nat.reduceMul, Int.reduceToNat, zG0, zG1, zG2, zCa, zCi, zCb, zCs, zCf, zCn, zCt, zCm, zCp]
      refine HL_nil ?_
      refine hN7 _ _ ?_
      try clear hN7 N7
      refine HC_region ?_
      refine' HL_q rfl rfl (QV_move (Ev.tmp rfl)) ?_
      simp only [zS0, zS1, zTn, Nat.reduceAdd, Nat.reduceMul, Int.reduceToNat, zG0, zG1, zG2, zCa, zCi, zCb, zCs, zCf, zCn, zCt, zCm, zCp]
      refine' HL_q rfl rfl (QV_move (Ev.tmp rfl)) ?_
      simp only [zS0, zS1, zTn, Nat.reduceAdd, Nat.reduceMul, Int.reduceToNat, zG0, zG1, zG2, zCa, zCi, zCb, zCs, zCf, zCn, zCt, zCm, zCp]
      refine' HL_q rfl rfl (QV_add (Ev.tmp rfl) (Ev.tmp rfl) ?hr) ?_
      case hr => first | exact IntWalk.i64_in _ (by omega) | exact IntWalk.u64_in _ (by omega) | exact IntWalk.u8_in _ (by omega) | exact IntWalk.u32_in _ (by omega) | exact IntWalk.i64_quo _ _ (by omega) | exact IntWalk.u64_quo _ _ (by omega) | rfl
      simp only [zS0, zS1, zTn, Nat.reduceAdd, Nat.reduceMul, Int.reduceToNat, zG0, zG1, zG2, zCa, zCi, zCb, zCs, zCf, zCn, zCt, zCm, zCp]
      refine' HL_q rfl rfl (QV_assign (Ev.tmp rfl)) ?_
      simp only [zS0, zS1, zTn, Nat.reduceAdd, Nat.reduceMul, Int.reduceToNat, zG0, zG1, zG2, zCa, zCi, zCb, zCs, zCf, zCn, zCt, zCm, zCp]
      refine HL_nil ?_
      try simp only [blockK]
      try simp only [thenK]
      refine' againL hL1 (Gets.cons rfl (Gets.cons rfl Gets.nil)) ?lt ?ag1 ?le ⟨p + 1, b, b + 20, h', rfl, rfl, by omega, rfl, hc', ?run, hpm.trans z3, rfl⟩
      case ag1 => (simp only [setL, List.set_cons_zero, List.set_cons_succ]; exact (Ag.keep (Ag.keep (Ag.keep (Ag.keep (Ag.keep (Ag.keep (Ag.keep (Ag.keep (Ag.keep (Ag.keep (Ag.keep (Ag.any (Ag.any (Ag.any (Ag.any (Ag.any (Ag.any (Ag.any (Ag.any (Ag.any (Ag.any (Ag.any (Ag.any Ag.nil))))))))))))))))))))))))
      case le => (first | with_reducible exact Le.refl | (refine Le.of ?_; (repeat (first | with_reducible exact Sp.refl | with_reducible exact Sp.nil | (apply Sp.pick; focus ((repeat (first | with_reducible exact Rm.head | with_reducible apply Rm.tail)); done)) | with_reducible refine Sp.drop ?_))))
      case lt => omega
      case run =>
        intro i j x y z
        rcases Nat.lt_or_ge j a with h1 | h1
        · rw [z1.1 i (by omega), z1.1 j (by omega)]
          exact hrun i j x h1 z
        · exact z2 i j (by omega) x (by omega)
    · refine HC_exit ?_
      simp only [thenK, blockK, reduceIte]
      have hc' : n < b := by simpa using hc
      refine hN3 _ _ ?_
      try clear hN3 N3
      refine HC_seq fun N8 hN8 => ?_
      refine HC_region ?_
      refine' HL_q rfl rfl (QV_move (Ev.tmp rfl)) ?_
      simp only [zS0, zS1, zTn, Nat.reduceAdd, Nat.reduceMul, Int.reduceToNat, zG0, zG1, zG2, zCa, zCi, zCb, zCs, zCf, zCn, zCt, zCm, zCp]
      refine' HL_q rfl rfl (QV_move (Ev.tmp rfl)) ?_
      simp only [zS0, zS1, zTn, Nat.reduceAdd, Nat.reduceMul, Int.reduceToNat, zG0, zG1, zG2, zCa, zCi, zCb, zCs, zCf, zCn, zCt, zCm, zCp]
      refine' HL_q rfl rfl (QV_move (Ev.tmp rfl)) ?_
      simp only [zS0, zS1, zTn, Nat.reduceAdd, Nat.reduceMul, Int.reduceToNat, zG0, zG1, zG2, zCa, zCi, zCb, zCs, zCf, zCn, zCt, zCm, zCp]
      refine' HL_q rfl rfl (QV_move (Ev.tmp rfl)) ?_
      simp only [zS0, zS1, zTn, Nat.reduceAdd, Nat.reduceMul, Int.reduceToNat, zG0, zG1, zG2, zCa, zCi, zCb, zCs, zCf, zCn, zCt, zCm, zCp]
      -- operation 4
      refine' HL_call rfl en113 (call_fn (EvL.cons (Ev.tmp rfl) (EvL.cons (Ev.tmp rfl) (EvL.cons (Ev.tmp rfl) (EvL.cons (Ev.tmp rfl) EvL.nil)))).evs) ((insertion_calls (a := a) (b := n) hp (Nat.le_refl _) (by omega))) ?_
      rintro _ _ ⟨h', rfl, z1, z2, z3⟩
      simp only [zS0, zS1, zTn, Nat.reduceAdd, Nat.reduceMul, Int.reduceToNat, zG0, zG1, zG2, zCa, zCi, zCb, zCs, zCf, zCn, zCt, zCm, zCp]
      refine HL_nil ?_
      refine hN8 _ _ ?_
      try clear hN8 N8
      have hr0 : RunS 20 n h' := by
        intro q i j x y z w
        rcases Nat.lt_or_ge j a with h1 | h1
        · rw [z1.1 i (by omega), z1.1 j (by omega)]
          exact hrun i j y h1 (by omega)
        · exact z2 i j (by omega) y w
      have hp0 := hpm.trans z3
      clear z1 z2 z3 hpm hrun hc
      refine HC_block ?_
      refine HC_loop [6] [false, false, false, false, false, false, false, true, true, true, false, false, false, false, false, false, false, false, false, false, false, false, false, false, false, false, false, false, true, true, true, true, true, true, true, true, true, true, true, true, true, true, true, true, true, true, true, true, true, true, true, true, true, true, true, true, true, true, true, true, true, true, true] (fun gh vs RR => ∃ (bs : Nat) (k : Nat → Turn), vs = [(.int .i64 bs)] ∧ gh = 2 * n - bs ∧ 20 ≤ bs ∧ bs ≤ 1000020 ∧ RunS bs n k ∧ PmF n f k ∧ RR = own 172 3 (.slice (some ⟨g, 0, none⟩) n c) n (rowF tc n k) :: R) ?start ?round
      case start =>
        simp only [List.map_cons, List.map_nil, List.getD_cons_zero, List.getD_cons_succ]
        refine' ⟨_, _, ?le, 20, h', rfl, rfl, (Nat.le_refl _), (by omega), hr0, hp0, rfl⟩
        case le => (first | with_reducible exact Le.refl | (refine Le.of ?_; (repeat (first | with_reducible exact Sp.refl | with_reducible exact Sp.nil | (apply Sp.pick; focus ((repeat (first | with_reducible exact Rm.head | with_reducible apply Rm.tail)); done)) | with_reducible refine Sp.drop ?_))))
      case round =>
        rintro _ _ _ u ⟨bs, k, rfl, rfl, hb1, hb2, hrun, hpm, rfl⟩ NL6 hL6
        simp only [setL, fill, List.set_cons_zero, List.set_cons_succ, Nat.reduceAdd]
        refine HC_seq fun N9 hN9 => ?_
        refine HC_seq fun N10 hN10 => ?_
        refine HC_region ?_
        refine' HL_q rfl rfl (QV_move (Ev.tmp rfl)) ?_
        simp only [zS0, zS1, zTn, Nat.reduceAdd, Nat.reduceMul, Int.reduceToNat, zG0, zG1, zG2, zCa, zCi, zCb, zCs, zCf, zCn, zCt, zCm, zCp]
        refine' HL_q rfl rfl (QV_move (Ev.tmp rfl)) ?_
        simp only [zS0, zS1, zTn, Nat.reduceAdd, Nat.reduceMul, Int.reduceToNat, zG0, zG1, zG2, zCa, zCi, zCb, zCs, zCf, zCn, zCt, zCm, zCp]
        first
          | (refine' HL_q rfl rfl (QV_lss_y (Ev.tmp rfl) (Ev.tmp rfl) ?hb) ?_; case hb => omega)
          | (refine' HL_q rfl rfl (QV_lss_n (Ev.tmp rfl) (Ev.tmp rfl) ?hb) ?_; case hb => omega)
          | (refine' HL_q rfl rfl (QV_lss (Ev.tmp rfl) (Ev.tmp rfl)) ?_)
        simp only [zS0, zS1, zTn, Nat.reduceAdd, Nat.reduceMul, Int.reduceToNat, zG0, zG1, zG2, zCa, zCi, zCb, zCs, zCf, zCn, zCt, zCm, zCp]
        refine HL_nil ?_
        refine hN10 _ _ ?_
        try clear hN10 N10
        refine HC_cond rfl (fun hc => ?_) (fun hc => ?_)
        · refine HC_skip ?_
          refine hN9 _ _ ?_
          try clear hN9 N9
          have hc' : bs < n := by simpa using hc
          have e1 : (2 : Int) * (bs : Int) = ((2 * bs : Nat) : Int) := by simp
          have e2 : (bs : Int) * 2 = ((2 * bs : Nat) : Int) := by simp; omega
          refine HC_block ?_
          refine HC_seq fun N11 hN11 => ?_
          refine HC_region ?_
          refine' HL_q rfl rfl (QV_move (Ev.tmp rfl)) ?_
          simp only [zS0, zS1, zTn, Nat.reduceAdd, Nat.reduceMul, Int.reduceToNat, zG0, zG1, zG2, zCa, zCi, zCb, zCs, zCf, zCn, zCt, zCm, zCp, e1, e2]
          refine' HL_q rfl rfl (QV_mul Ev.const (Ev.tmp rfl) ?hr) ?_
          case hr => first | exact IntWalk.i64_in _ (by omega) | exact IntWalk.u64_in _ (by omega) | exact IntWalk.u8_in _ (by omega) | exact IntWalk.u32_in _ (by omega) | exact IntWalk.i64_quo _ _ (by omega) | exact IntWalk.u64_quo _ _ (by omega) | rfl
          simp only [zS0, zS1, zTn, Nat.reduceAdd, Nat.reduceMul, Int.reduceToNat, zG0, zG1, zG2, zCa, zCi, zCb, zCs, zCf, zCn, zCt, zCm, zCp, e1, e2]
          refine' HL_q rfl rfl (QV_assign Ev.const) ?_
          simp only [zS0, zS1, zTn, Nat.reduceAdd, Nat.reduceMul, Int.reduceToNat, zG0, zG1, zG2, zCa, zCi, zCb, zCs, zCf, zCn, zCt, zCm, zCp, e1, e2]
          refine' HL_q rfl rfl (QV_assign (Ev.tmp rfl)) ?_
          simp only [zS0, zS1, zTn, Nat.reduceAdd, Nat.reduceMul, Int.reduceToNat, zG0, zG1, zG2, zCa, zCi, zCb, zCs, zCf, zCn, zCt, zCm, zCp, e1, e2]
          refine HL_nil ?_
          refine hN11 _ _ ?_
          try clear hN11 N11
          refine HC_seq fun N12 hN12 => ?_
          refine HC_block ?_
          refine HC_loop [7, 8] [false, false, false, false, false, false, false, false, false, false, false, false, false, false, false, false, false, false, false, false, false, false, false, false, false, false, false, false, false, false, false, false, false, true, true, true, true, true, true, true, true, true, true, true, true, true, true, true, true] (fun gh vs RR => ∃ (p : Nat) (a : Nat) (b : Nat) (k' : Nat → Turn), vs = [(.int .i64 a), (.int .i64 b)] ∧ gh = n + 1 - a ∧ a = p * (2 * bs) ∧ b = a + 2 * bs ∧ a ≤ n ∧ Half bs n p k' ∧ PmF n f k' ∧ RR = own 172 3 (.slice (some ⟨g, 0, none⟩) n c) n (rowF tc n k') :: R) ?start ?round
          case start =>
            simp only [List.map_cons, List.map_nil, List.getD_cons_zero, List.getD_cons_succ]
            refine' ⟨_, _, ?le, 0, 0, 2 * bs, k, rfl, rfl, (by omega), (by omega), (Nat.zero_le _), half_start hrun, hpm, rfl⟩
            case le => (first | with_reducible exact Le.refl | (refine Le.of ?_; (repeat (first | with_reducible exact Sp.refl | with_reducible exact Sp.nil | (apply Sp.pick; focus ((repeat (first | with_reducible exact Rm.head | with_reducible apply Rm.tail)); done)) | with_reducible refine Sp.drop ?_))))
          case round =>
            rintro _ _ _ u ⟨p, a, b, k', rfl, rfl, ha, hb, han, hhalf, hpm', rfl⟩ NL8 hL8
            simp only [setL, fill, List.set_cons_zero, List.set_cons_succ, Nat.reduceAdd]
            obtain ⟨w1, w2, w3⟩ := half_runs hhalf ha
            refine HC_seq fun N13 hN13 => ?_
            refine HC_seq fun N14 hN14 => ?_
            refine HC_region ?_
            refine' HL_q rfl rfl (QV_move (Ev.tmp rfl)) ?_
            simp only [zS0, zS1, zTn, Nat.reduceAdd, Nat.reduceMul, Int.reduceToNat, zG0, zG1, zG2, zCa, zCi, zCb, zCs, zCf, zCn, zCt, zCm, zCp, e1, e2]
            refine' HL_q rfl rfl (QV_move (Ev.tmp rfl)) ?_
            simp only [zS0, zS1, zTn, Nat.reduceAdd, Nat.reduceMul, Int.reduceToNat, zG0, zG1, zG2, zCa, zCi, zCb, zCs, zCf, zCn, zCt, zCm, zCp, e1, e2]
            first
              | (refine' HL_q rfl rfl (QV_leq_y (Ev.tmp rfl) (Ev.tmp rfl) ?hb) ?_; case hb => omega)
              | (refine' HL_q rfl rfl (QV_leq_n (Ev.tmp rfl) (Ev.tmp rfl) ?hb) ?_; case hb => omega)
              | (refine' HL_q rfl rfl (QV_leq (Ev.tmp rfl) (Ev.tmp rfl)) ?_)
            simp only [zS0, zS1, zTn, Nat.reduceAdd, Nat.reduceMul, Int.reduceToNat, zG0, zG1, zG2, zCa, zCi, zCb, zCs, zCf, zCn, zCt, zCm, zCp, e1, e2]
            refine HL_nil ?_
            refine hN14 _ _ ?_
            try clear hN14 N14
            refine HC_cond rfl (fun hc9 => ?_) (fun hc9 => ?_)
            · refine HC_skip ?_
              refine hN13 _ _ ?_
              try clear hN13 N13
              have hc9' : b ≤ n := by simpa using hc9
              refine HC_block ?_
              refine HC_seq fun N15 hN15 => ?_
              refine HC_region ?_
              refine' HL_q rfl rfl (QV_move (Ev.tmp rfl)) ?_
              simp only [zS0, zS1, zTn, Nat.reduceAdd, Nat.reduceMul, Int.reduceToNat, zG0, zG1, zG2, zCa, zCi, zCb, zCs, zCf, zCn, zCt, zCm, zCp, e1, e2]
              refine' HL_q rfl rfl (QV_move (Ev.tmp rfl)) ?_
              simp only [zS0, zS1, zTn, Nat.reduceAdd, Nat.reduceMul, Int.reduceToNat, zG0, zG1, zG2, zCa, zCi, zCb, zCs, zCf, zCn, zCt, zCm, zCp, e1, e2]
              refine' HL_q rfl rfl (QV_move (Ev.tmp rfl)) ?_
              simp only [zS0, zS1, zTn, Nat.reduceAdd, Nat.reduceMul, Int.reduceToNat, zG0, zG1, zG2, zCa, zCi, zCb, zCs, zCf, zCn, zCt, zCm, zCp, e1, e2]
              refine' HL_q rfl rfl (QV_move (Ev.tmp rfl)) ?_
              simp only [zS0, zS1, zTn, Nat.reduceAdd, Nat.reduceMul, Int.reduceToNat, zG0, zG1, zG2, zCa, zCi, zCb, zCs, zCf, zCn, zCt, zCm, zCp, e1, e2]
              refine' HL_q rfl rfl (QV_add (Ev.tmp rfl) (Ev.tmp rfl) ?hr) ?_
              case hr => first | exact IntWalk.i64_in _ (by omega) | exact IntWalk.u64_in _ (by omega) | exact IntWalk.u8_in _ (by omega) | exact IntWalk.u32_in _ (by omega) | exact IntWalk.i64_quo _ _ (by omega) | exact IntWalk.u64_quo _ _ (by omega) | rfl
              simp only [zS0, zS1, zTn, Nat.reduceAdd, Nat.reduceMul, Int.reduceToNat, zG0, zG1, zG2, zCa, zCi, zCb, zCs, zCf, zCn, zCt, zCm, zCp, e1, e2]
              refine' HL_q rfl rfl (QV_move (Ev.tmp rfl)) ?_
              simp only [zS0, zS1, zTn, Nat.reduceAdd, Nat.reduceMul, Int.reduceToNat, zG0, zG1, zG2, zCa, zCi, zCb, zCs, zCf, zCn, zCt, zCm, zCp, e1, e2]
              refine' HL_q rfl rfl (QV_move (Ev.tmp rfl)) ?_
              simp only [zS0, zS1, zTn, Nat.reduceAdd, Nat.reduceMul, Int.reduceToNat, zG0, zG1, zG2, zCa, zCi, zCb, zCs, zCf, zCn, zCt, zCm, zCp, e1, e2]
              -- operation 7
              refine' HL_call rfl en114 (call_fn (EvL.cons (Ev.tmp rfl) (EvL.cons (Ev.tmp rfl) (EvL.cons (Ev.tmp rfl) (EvL.cons (Ev.tmp rfl) (EvL.cons (Ev.tmp rfl) EvL.nil))))).evs) ((symMerge_all (by omega) (b - a + 1) (a := a) (m := a + bs) (b := b) (by omega) (by omega) (by omega) hc9' (w1 (by omega)) (w2 b (by omega) (by omega)))) ?_
              rintro _ _ ⟨k2, rfl, z1, z2, z3⟩
              simp only [zS0, zS1, zTn, Nat.reduceAdd, Nat.reduceMul, Int.reduceToNat, zG0, zG1, zG2, zCa, zCi, zCb, zCs, zCf, zCn, zCt, zCm, zCp, e1, e2]
              refine HL_nil ?_
              refine hN15 _ _ ?_
              try clear hN15 N15
              refine HC_seq fun N16 hN16 => ?_
              refine HC_region ?_
              refine' HL_q rfl rfl (QV_move (Ev.tmp rfl)) ?_
              simp only [zS0, zS1, zTn, Nat.reduceAdd, Nat.reduceMul, Int.reduceToNat, zG0, zG1, zG2, zCa, zCi, zCb, zCs, zCf, zCn, zCt, zCm, zCp, e1, e2]
              refine' HL_q rfl rfl (QV_assign (Ev.tmp rfl)) ?_
              simp only [zS0, zS1, zTn, Nat.reduceAdd, Nat.reduceMul, Int.reduceToNat, zG0, zG1, zG2, zCa, zCi, zCb, zCs, zCf, zCn, zCt, zCm, zCp, e1, e2]
              refine HL_nil ?_
              refine hN16 _ _ ?_
              try clear hN16 N16
              refine HC_region ?_
              refine' HL_q rfl rfl (QV_move (Ev.tmp rfl)) ?_
              simp only [zS0, zS1, zTn, Nat.reduceAdd, Nat.reduceMul, Int.reduceToNat, zG0, zG1, zG2, zCa, zCi, zCb, zCs, zCf, zCn, zCt, zCm, zCp, e1, e2]
              refine' HL_q rfl rfl (QV_move (Ev.tmp rfl)) ?_
              simp only [zS0, zS1, zTn, Nat.reduceAdd, Nat.reduceMul, Int.reduceToNat, zG0, zG1, zG2, zCa, zCi, zCb, zCs, zCf, zCn, zCt, zCm, zCp, e1, e2]
              refine' HL_q rfl rfl (QV_mul Ev.const (Ev.tmp rfl) ?hr) ?_
              case hr => first | exact IntWalk.i64_in _ (by omega) | exact IntWalk.u64_in _ (by omega) | exact IntWalk.u8_in _ (by omega) | exact IntWalk.u32_in _ (by omega) | exact IntWalk.i64_quo _ _ (by omega) | exact IntWalk.u64_quo _ _ (by omega) | rfl
              simp only [zS0, zS1, zTn, Nat.reduceAdd, Nat.reduceMul, Int.reduceToNat, zG0, zG1, zG2, zCa, zCi, zCb, zCs, zCf, zCn, zCt, zCm, zCp, e1, e2]
              refine' HL_q rfl rfl (QV_add (Ev.tmp rfl) (Ev.tmp rfl) ?hr) ?_
              case hr => first | exact IntWalk.i64_in _ (by omega) | exact IntWalk.u64_in _ (by omega) | exact IntWalk.u8_in _ (by omega) | exact IntWalk.u32_in _ (by omega) | exact IntWalk.i64_quo _ _ (by omega) | exact IntWalk.u64_quo _ _ (by omega) | rfl
              simp only [zS0, zS1, zTn, Nat.reduceAdd, Nat.reduceMul, Int.reduceToNat, zG0, zG1, zG2, zCa, zCi, zCb, zCs, zCf, zCn, zCt, zCm, zCp, e1, e2]
              refine' HL_q rfl rfl (QV_assign (Ev.tmp rfl)) ?_
              simp only [zS0, zS1, zTn, Nat.reduceAdd, Nat.reduceMul, Int.reduceToNat, zG0, zG1, zG2, zCa, zCi, zCb, zCs, zCf, zCn, zCt, zCm, zCp, e1, e2]
              refine HL_nil ?_
              try simp only [blockK]
              try simp only [thenK]
              subst hb
              refine' againL hL8 (Gets.cons rfl (Gets.cons rfl Gets.nil)) ?lt ?ag2 ?le ⟨p + 1, a + 2 * bs, a + 2 * bs + 2 * bs, k2, rfl, rfl, by rw [Nat.add_mul, ← ha, Nat.one_mul], rfl, hc9', half_step hhalf ha z1 z2, hpm'.trans z3, rfl⟩
              case ag2 => (simp only [setL, List.set_cons_zero, List.set_cons_succ]; exact (Ag.keep (Ag.keep (Ag.keep (Ag.keep (Ag.keep (Ag.keep (Ag.keep (Ag.keep (Ag.keep (Ag.keep (Ag.keep (Ag.keep (Ag.keep (Ag.keep (Ag.keep (Ag.keep (Ag.keep (Ag.keep (Ag.keep (Ag.keep (Ag.keep (Ag.keep (Ag.keep (Ag.keep (Ag.keep (Ag.keep (Ag.keep (Ag.keep (Ag.keep (Ag.keep (Ag.keep (Ag.keep (Ag.keep (Ag.any (Ag.any (Ag.any (Ag.any (Ag.any (Ag.any (Ag.any (Ag.any (Ag.any (Ag.any (Ag.any (Ag.any (Ag.any (Ag.any (Ag.any (Ag.any Ag.nil))))))))))))))))))))))))))))))))))))))))))))))))))
              case le => (first | with_reducible exact Le.refl | (refine Le.of ?_; (repeat (first | with_reducible exact Sp.refl | with_reducible exact Sp.nil | (apply Sp.pick; focus ((repeat (first | with_reducible exact Rm.head | with_reducible apply Rm.tail)); done)) | with_reducible refine Sp.drop ?_))))
              case lt => omega
            · refine HC_exit ?_
              simp only [thenK, blockK, reduceIte]
              have hc9' : n < b := by simpa using hc9
              refine hN12 _ _ ?_
              try clear hN12 N12
              have e3 : (a : Int) + (bs : Int) = ((a + bs : Nat) : Int) := by simp
              refine HC_mid [] [false, false, false, false, false, false, false, false, false, true, false, false, false, false, false, false, false, false, false, false, false, false, false, false, false, false, false, false, false, false, false, false, false, false, false, false, false, false, false, false, false, false, false, false, false, false, false, false, false, true, true, true, true, true, true, true, true, true, true, true, true] (fun vs RR => ∃ (k2 : Nat → Turn), vs = [] ∧ RunS (2 * bs) n k2 ∧ PmF n f k2 ∧ RR = own 172 3 (.slice (some ⟨g, 0, none⟩) n c) n (rowF tc n k2) :: R) (fun NM17 hM17 => ?first) ?rest
              case first =>
                refine HC_seq fun N18 hN18 => ?_
                refine HC_region ?_
                refine' HL_q rfl rfl (QV_move (Ev.tmp rfl)) ?_
                simp only [zS0, zS1, zTn, Nat.reduceAdd, Nat.reduceMul, Int.reduceToNat, zG0, zG1, zG2, zCa, zCi, zCb, zCs, zCf, zCn, zCt, zCm, zCp, e1, e2, e3]
                refine' HL_q rfl rfl (QV_move (Ev.tmp rfl)) ?_
                simp only [zS0, zS1, zTn, Nat.reduceAdd, Nat.reduceMul, Int.reduceToNat, zG0, zG1, zG2, zCa, zCi, zCb, zCs, zCf, zCn, zCt, zCm, zCp, e1, e2, e3]
                refine' HL_q rfl rfl (QV_add (Ev.tmp rfl) (Ev.tmp rfl) ?hr) ?_
                case hr => first | exact IntWalk.i64_in _ (by omega) | exact IntWalk.u64_in _ (by omega) | exact IntWalk.u8_in _ (by omega) | exact IntWalk.u32_in _ (by omega) | exact IntWalk.i64_quo _ _ (by omega) | exact IntWalk.u64_quo _ _ (by omega) | rfl
                simp only [zS0, zS1, zTn, Nat.reduceAdd, Nat.reduceMul, Int.reduceToNat, zG0, zG1, zG2, zCa, zCi, zCb, zCs, zCf, zCn, zCt, zCm, zCp, e1, e2, e3]
                refine' HL_q rfl rfl (QV_assign (Ev.tmp rfl)) ?_
                simp only [zS0, zS1, zTn, Nat.reduceAdd, Nat.reduceMul, Int.reduceToNat, zG0, zG1, zG2, zCa, zCi, zCb, zCs, zCf, zCn, zCt, zCm, zCp, e1, e2, e3]
                refine HL_nil ?_
                refine hN18 _ _ ?_
                try clear hN18 N18
                refine HC_seq fun N19 hN19 => ?_
                refine HC_region ?_
                refine' HL_q rfl rfl (QV_move (Ev.tmp rfl)) ?_
                simp only [zS0, zS1, zTn, Nat.reduceAdd, Nat.reduceMul, Int.reduceToNat, zG0, zG1, zG2, zCa, zCi, zCb, zCs, zCf, zCn, zCt, zCm, zCp, e1, e2, e3]
                refine' HL_q rfl rfl (QV_move (Ev.tmp rfl)) ?_
                simp only [zS0, zS1, zTn, Nat.reduceAdd, Nat.reduceMul, Int.reduceToNat, zG0, zG1, zG2, zCa, zCi, zCb, zCs, zCf, zCn, zCt, zCm, zCp, e1, e2, e3]
                first
                  | (refine' HL_q rfl rfl (QV_lss_y (Ev.tmp rfl) (Ev.tmp rfl) ?hb) ?_; case hb => omega)
                  | (refine' HL_q rfl rfl (QV_lss_n (Ev.tmp rfl) (Ev.tmp rfl) ?hb) ?_; case hb => omega)
                  | (refine' HL_q rfl rfl (QV_lss (Ev.tmp rfl) (Ev.tmp rfl)) ?_)
                simp only [zS0, zS1, zTn, Nat.reduceAdd, Nat.reduceMul, Int.reduceToNat, zG0, zG1, zG2, zCa, zCi, zCb, zCs, zCf, zCn, zCt, zCm, zCp, e1, e2, e3]
                refine HL_nil ?_
                refine hN19 _ _ ?_
                try clear hN19 N19
                refine HC_cond rfl (fun hm => ?_) (fun hm => ?_)
                · have hm' : a + bs < n := by simp at hm; omega
                  refine HC_region ?_
                  refine' HL_q rfl rfl (QV_move (Ev.tmp rfl)) ?_
                  simp only [zS0, zS1, zTn, Nat.reduceAdd, Nat.reduceMul, Int.reduceToNat, zG0, zG1, zG2, zCa, zCi, zCb, zCs, zCf, zCn, zCt, zCm, zCp, e1, e2, e3]
                  refine' HL_q rfl rfl (QV_move (Ev.tmp rfl)) ?_
                  simp only [zS0, zS1, zTn, Nat.reduceAdd, Nat.reduceMul, Int.reduceToNat, zG0, zG1, zG2, zCa, zCi, zCb, zCs, zCf, zCn, zCt, zCm, zCp, e1, e2, e3]
                  refine' HL_q rfl rfl (QV_move (Ev.tmp rfl)) ?_
                  simp only [zS0, zS1, zTn, Nat.reduceAdd, Nat.reduceMul, Int.reduceToNat, zG0, zG1, zG2, zCa, zCi, zCb, zCs, zCf, zCn, zCt, zCm, zCp, e1, e2, e3]
                  refine' HL_q rfl rfl (QV_move (Ev.tmp rfl)) ?_
                  simp only [zS0, zS1, zTn, Nat.reduceAdd, Nat.reduceMul, Int.reduceToNat, zG0, zG1, zG2, zCa, zCi, zCb, zCs, zCf, zCn, zCt, zCm, zCp, e1, e2, e3]
                  refine' HL_q rfl rfl (QV_move (Ev.tmp rfl)) ?_
                  simp only [zS0, zS1, zTn, Nat.reduceAdd, Nat.reduceMul, Int.reduceToNat, zG0, zG1, zG2, zCa, zCi, zCb, zCs, zCf, zCn, zCt, zCm, zCp, e1, e2, e3]
                  -- operation 5
                  refine' HL_call rfl en114 (call_fn (EvL.cons (Ev.tmp rfl) (EvL.cons (Ev.tmp rfl) (EvL.cons (Ev.tmp rfl) (EvL.cons (Ev.tmp rfl) (EvL.cons (Ev.tmp rfl) EvL.nil))))).evs) ((symMerge_all (by omega) (n - a + 1) (a := a) (m := a + bs) (b := n) (by omega) (by omega) hm' (Nat.le_refl _) (w1 (by omega)) (w2 n (Nat.le_refl _) (by omega)))) ?_
                  rintro _ _ ⟨k2, rfl, z1, z2, z3⟩
                  simp only [zS0, zS1, zTn, Nat.reduceAdd, Nat.reduceMul, Int.reduceToNat, zG0, zG1, zG2, zCa, zCi, zCb, zCs, zCf, zCn, zCt, zCm, zCp, e1, e2, e3]
                  refine HL_nil ?_
                  simp only [thenK]
                  try simp only [thenK]
                  refine' meetM hM17 Gets.nil ?ag3 ?le ⟨k2, rfl, half_end hhalf ha (by omega) z1 z2, hpm'.trans z3, rfl⟩
                  case ag3 => (simp only [setL, List.set_cons_zero, List.set_cons_succ]; exact (Ag.keep (Ag.keep (Ag.keep (Ag.keep (Ag.keep (Ag.keep (Ag.keep (Ag.keep (Ag.keep (Ag.any (Ag.keep (Ag.keep (Ag.keep (Ag.keep (Ag.keep (Ag.keep (Ag.keep (Ag.keep (Ag.keep (Ag.keep (Ag.keep (Ag.keep (Ag.keep (Ag.keep (Ag.keep (Ag.keep (Ag.keep (Ag.keep (Ag.keep (Ag.keep (Ag.keep (Ag.keep (Ag.keep (Ag.keep (Ag.keep (Ag.keep (Ag.keep (Ag.keep (Ag.keep (Ag.keep (Ag.keep (Ag.keep (Ag.keep (Ag.keep (Ag.keep (Ag.keep (Ag.keep (Ag.keep (Ag.keep (Ag.any (Ag.any (Ag.any (Ag.any (Ag.any (Ag.any (Ag.any (Ag.any (Ag.any (Ag.any (Ag.any (Ag.any Ag.nil))))))))))))))))))))))))))))))))))))))))))))))))))))))))))))))
                  case le => (first | with_reducible exact Le.refl | (refine Le.of ?_; (repeat (first | with_reducible exact Sp.refl | with_reducible exact Sp.nil | (apply Sp.pick; focus ((repeat (first | with_reducible exact Rm.head | with_reducible apply Rm.tail)); done)) | with_reducible refine Sp.drop ?_))))
                · have hm' : n ≤ a + bs := by simp at hm; omega
                  refine HC_skip ?_
                  try simp only [thenK]
                  refine' meetM hM17 Gets.nil ?ag4 ?le ⟨k', rfl, half_end hhalf ha (by omega) InF.refl (w3 n (Nat.le_refl _) hm'), hpm', rfl⟩
                  case ag4 => (simp only [setL, List.set_cons_zero, List.set_cons_succ]; exact (Ag.keep (Ag.keep (Ag.keep (Ag.keep (Ag.keep (Ag.keep (Ag.keep (Ag.keep (Ag.keep (Ag.any (Ag.keep (Ag.keep (Ag.keep (Ag.keep (Ag.keep (Ag.keep (Ag.keep (Ag.keep (Ag.keep (Ag.keep (Ag.keep (Ag.keep (Ag.keep (Ag.keep (Ag.keep (Ag.keep (Ag.keep (Ag.keep (Ag.keep (Ag.keep (Ag.keep (Ag.keep (Ag.keep (Ag.keep (Ag.keep (Ag.keep (Ag.keep (Ag.keep (Ag.keep (Ag.keep (Ag.keep (Ag.keep (Ag.keep (Ag.keep (Ag.keep (Ag.keep (Ag.keep (Ag.keep (Ag.keep (Ag.any (Ag.any (Ag.any (Ag.any (Ag.any (Ag.any (Ag.any (Ag.any (Ag.any (Ag.any (Ag.any (Ag.any Ag.nil))))))))))))))))))))))))))))))))))))))))))))))))))))))))))))))
                  case le => (first | with_reducible exact Le.refl | (refine Le.of ?_; (repeat (first | with_reducible exact Sp.refl | with_reducible exact Sp.nil | (apply Sp.pick; focus ((repeat (first | with_reducible exact Rm.head | with_reducible apply Rm.tail)); done)) | with_reducible refine Sp.drop ?_))))
              case rest =>
                rintro _ _ u ⟨k2, rfl, hr2, hp2, rfl⟩
                simp only [setL, fill, List.set_cons_zero, List.set_cons_succ, Nat.reduceAdd]
                refine HC_region ?_
                refine' HL_q rfl rfl (QV_move (Ev.tmp rfl)) ?_
                simp only [zS0, zS1, zTn, Nat.reduceAdd, Nat.reduceMul, Int.reduceToNat, zG0, zG1, zG2, zCa, zCi, zCb, zCs, zCf, zCn, zCt, zCm, zCp, e1, e2, e3]
                refine' HL_q rfl rfl (QV_mul (Ev.tmp rfl) Ev.const ?hr) ?_
                case hr => first | exact IntWalk.i64_in _ (by omega) | exact IntWalk.u64_in _ (by omega) | exact IntWalk.u8_in _ (by omega) | exact IntWalk.u32_in _ (by omega) | exact IntWalk.i64_quo _ _ (by omega) | exact IntWalk.u64_quo _ _ (by omega) | rfl
                simp only [zS0, zS1, zTn, Nat.reduceAdd, Nat.reduceMul, Int.reduceToNat, zG0, zG1, zG2, zCa, zCi, zCb, zCs, zCf, zCn, zCt, zCm, zCp, e1, e2, e3]
                refine' HL_q rfl rfl (QV_assign (Ev.tmp rfl)) ?_
                simp only [zS0, zS1, zTn, Nat.reduceAdd, Nat.reduceMul, Int.reduceToNat, zG0, zG1, zG2, zCa, zCi, zCb, zCs, zCf, zCn, zCt, zCm, zCp, e1, e2, e3]
                refine HL_nil ?_
                try simp only [blockK]
                try simp only [thenK]
                refine' againL hL6 (Gets.cons rfl Gets.nil) ?lt ?ag5 ?le ⟨2 * bs, k2, rfl, rfl, by omega, by omega, hr2, hp2, rfl⟩
                case ag5 => (simp only [setL, List.set_cons_zero, List.set_cons_succ]; exact (Ag.keep (Ag.keep (Ag.keep (Ag.keep (Ag.keep (Ag.keep (Ag.keep (Ag.any (Ag.any (Ag.any (Ag.keep (Ag.keep (Ag.keep (Ag.keep (Ag.keep (Ag.keep (Ag.keep (Ag.keep (Ag.keep (Ag.keep (Ag.keep (Ag.keep (Ag.keep (Ag.keep (Ag.keep (Ag.keep (Ag.keep (Ag.keep (Ag.any (Ag.any (Ag.any (Ag.any (Ag.any (Ag.any (Ag.any (Ag.any (Ag.any (Ag.any (Ag.any (Ag.any (Ag.any (Ag.any (Ag.any (Ag.any (Ag.any (Ag.any (Ag.any (Ag.any (Ag.any (Ag.any (Ag.any (Ag.any (Ag.any (Ag.any (Ag.any (Ag.any (Ag.any (Ag.any (Ag.any (Ag.any (Ag.any (Ag.any (Ag.any Ag.nil))))))))))))))))))))))))))))))))))))))))))))))))))))))))))))))))
                case le => (first | with_reducible exact Le.refl | (refine Le.of ?_; (repeat (first | with_reducible exact Sp.refl | with_reducible exact Sp.nil | (apply Sp.pick; focus ((repeat (first | with_reducible exact Rm.head | with_reducible apply Rm.tail)); done)) | with_reducible refine Sp.drop ?_))))
                case lt => omega
        · refine HC_exit ?_
          simp only [thenK, blockK, reduceIte]
          have hc' : n ≤ bs := by simpa using hc
          try simp only [thenK, blockK, reduceIte]
          refine kn _ _ ?_
          refine' Lv_none rfl ?post ?le
          case post => exact ⟨k, rfl, fun i j x y z => hrun 0 i j (by omega) y (by omega) z, hpm⟩
          case le => (first | with_reducible exact Le.refl | (refine Le.of ?_; (repeat (first | with_reducible exact Sp.refl | with_reducible exact Sp.nil | (apply Sp.pick; focus ((repeat (first | with_reducible exact Rm.head | with_reducible apply Rm.tail)); done)) | with_reducible refine Sp.drop ?_))))
end Go.Proofs.Ytcilfoicoambhaa
