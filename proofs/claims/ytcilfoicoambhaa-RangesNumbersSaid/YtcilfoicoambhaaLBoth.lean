import Derived.Test.YtcilfoicoambhaaLAgain
set_option linter.unusedVariables false
set_option linter.unusedSimpArgs false
set_option maxRecDepth 20000
set_option maxHeartbeats 4000000
namespace Go.Proofs.Ytcilfoicoambhaa
open Go Go.Hw Go.RowKit

variable {w0 : World} {R : List Asn}

theorem rangesBoth {A B : Option Addr} {c d n : Nat} {l m : List Rg} (hs : Sl w0 [] 2 A l.length (rgC l)) (hw : Wide l) (hl : l.length ≤ 9223372036854775807) (ht : Sl w0 [] 2 B m.length (rgC m)) (hw' : Wide m) (hm : m.length ≤ 9223372036854775807) :
    CH Try.prog w0 12 #[.slice A l.length c, .slice B m.length d, .int .u64 (n : Nat)] [] fun v R' => v = .bool true ∧ R' = [] := by
  have hs' : ∀ R, Sl w0 R 2 A l.length (rgC l) := fun R => hs.sub (List.nil_sublist _)
  have ht' : ∀ R, Sl w0 R 2 B m.length (rgC m) := fun R => ht.sub (List.nil_sublist _)
  refine CH_of Try.func12 rfl fun K kn kr kp => ?_
  simp only [Try.ntmps12, List.size_toArray, List.length_cons, List.length_nil, Nat.reduceAdd, Nat.reduceSub, Array.replicate_succ, Array.replicate_zero, List.push_toArray, List.append_toArray, List.nil_append, List.cons_append]
  refine HC_seq fun N1 hN1 => ?_
  refine HC_region ?_
  refine' HL_q rfl rfl (QV_assign Ev.const) ?_
  simp only [zS0, zS1, zTn, Nat.reduceAdd, Nat.reduceMul, Int.reduceToNat, zG0, zG1, zG2, zCa, zCi, zCb, zCs, zCf, zCn, zCt, zCm, zCp]
  refine HL_nil ?_
  refine hN1 _ _ ?_
  try clear hN1 N1
  refine HC_seq fun N2 hN2 => ?_
  refine HC_region ?_
  refine' HL_q rfl rfl (QV_move (Ev.tmp rfl)) ?_
  simp only [zS0, zS1, zTn, Nat.reduceAdd, Nat.reduceMul, Int.reduceToNat, zG0, zG1, zG2, zCa, zCi, zCb, zCs, zCf, zCn, zCt, zCm, zCp]
  refine' HL_q rfl rfl (QV_move (Ev.tmp rfl)) ?_
  simp only [zS0, zS1, zTn, Nat.reduceAdd, Nat.reduceMul, Int.reduceToNat, zG0, zG1, zG2, zCa, zCi, zCb, zCs, zCf, zCn, zCt, zCm, zCp]
  -- operation 2
  refine' HL_call rfl en47 (call_fn (EvL.cons (Ev.tmp rfl) (EvL.cons (Ev.tmp rfl) EvL.nil)).evs) ((meet_calls (l := l) (m := m) (hs' _) hw hl (ht' _) hw' hm)) ?_
  rintro _ _ ⟨A1, c1, o1, e1, rfl, rfl, hl1, hs1⟩
  simp only [zS0, zS1, zTn, Nat.reduceAdd, Nat.reduceMul, Int.reduceToNat, zG0, zG1, zG2, zCa, zCi, zCb, zCs, zCf, zCn, zCt, zCm, zCp]
  refine' HL_q rfl rfl (QV_move (Ev.tmp rfl)) ?_
  simp only [zS0, zS1, zTn, Nat.reduceAdd, Nat.reduceMul, Int.reduceToNat, zG0, zG1, zG2, zCa, zCi, zCb, zCs, zCf, zCn, zCt, zCm, zCp]
  refine' HL_q rfl rfl (QV_extract (Ev.tmp rfl) rfl) ?_
  simp only [zS0, zS1, zTn, Nat.reduceAdd, Nat.reduceMul, Int.reduceToNat, zG0, zG1, zG2, zCa, zCi, zCb, zCs, zCf, zCn, zCt, zCm, zCp]
  refine' HL_q rfl rfl (QV_extract (Ev.tmp rfl) rfl) ?_
  simp only [zS0, zS1, zTn, Nat.reduceAdd, Nat.reduceMul, Int.reduceToNat, zG0, zG1, zG2, zCa, zCi, zCb, zCs, zCf, zCn, zCt, zCm, zCp]
  refine' HL_q rfl rfl (QV_assign (Ev.tmp rfl)) ?_
  simp only [zS0, zS1, zTn, Nat.reduceAdd, Nat.reduceMul, Int.reduceToNat, zG0, zG1, zG2, zCa, zCi, zCb, zCs, zCf, zCn, zCt, zCm, zCp]
  refine' HL_q rfl rfl (QV_assign (Ev.tmp rfl)) ?_
  simp only [zS0, zS1, zTn, Nat.reduceAdd, Nat.reduceMul, Int.reduceToNat, zG0, zG1, zG2, zCa, zCi, zCb, zCs, zCf, zCn, zCt, zCm, zCp]
  refine HL_nil ?_
  refine hN2 _ _ ?_
  try clear hN2 N2
  refine HC_seq fun N3 hN3 => ?_
  refine HC_region ?_
  refine' HL_q rfl rfl (QV_move (Ev.tmp rfl)) ?_
  simp only [zS0, zS1, zTn, Nat.reduceAdd, Nat.reduceMul, Int.reduceToNat, zG0, zG1, zG2, zCa, zCi, zCb, zCs, zCf, zCn, zCt, zCm, zCp]
  refine' HL_q rfl rfl (QV_move (Ev.tmp rfl)) ?_
  simp only [zS0, zS1, zTn, Nat.reduceAdd, Nat.reduceMul, Int.reduceToNat, zG0, zG1, zG2, zCa, zCi, zCb, zCs, zCf, zCn, zCt, zCm, zCp]
  -- operation 2
  refine' HL_call rfl en47 (call_fn (EvL.cons (Ev.tmp rfl) (EvL.cons (Ev.tmp rfl) EvL.nil)).evs) ((meet_calls (l := m) (m := l) (ht' _) hw' hm (hs' _) hw hl)) ?_
  rintro _ _ ⟨A2, c2, o2, e2, rfl, rfl, hl2, hs2⟩
  simp only [zS0, zS1, zTn, Nat.reduceAdd, Nat.reduceMul, Int.reduceToNat, zG0, zG1, zG2, zCa, zCi, zCb, zCs, zCf, zCn, zCt, zCm, zCp]
  refine' HL_q rfl rfl (QV_move (Ev.tmp rfl)) ?_
  simp only [zS0, zS1, zTn, Nat.reduceAdd, Nat.reduceMul, Int.reduceToNat, zG0, zG1, zG2, zCa, zCi, zCb, zCs, zCf, zCn, zCt, zCm, zCp]
  refine' HL_q rfl rfl (QV_extract (Ev.tmp rfl) rfl) ?_
  simp only [zS0, zS1, zTn, Nat.reduceAdd, Nat.reduceMul, Int.reduceToNat, zG0, zG1, zG2, zCa, zCi, zCb, zCs, zCf, zCn, zCt, zCm, zCp]
  refine' HL_q rfl rfl (QV_extract (Ev.tmp rfl) rfl) ?_
  simp only [zS0, zS1, zTn, Nat.reduceAdd, Nat.reduceMul, Int.reduceToNat, zG0, zG1, zG2, zCa, zCi, zCb, zCs, zCf, zCn, zCt, zCm, zCp]
  refine' HL_q rfl rfl (QV_assign (Ev.tmp rfl)) ?_
  simp only [zS0, zS1, zTn, Nat.reduceAdd, Nat.reduceMul, Int.reduceToNat, zG0, zG1, zG2, zCa, zCi, zCb, zCs, zCf, zCn, zCt, zCm, zCp]
  refine' HL_q rfl rfl (QV_assign (Ev.tmp rfl)) ?_
  simp only [zS0, zS1, zTn, Nat.reduceAdd, Nat.reduceMul, Int.reduceToNat, zG0, zG1, zG2, zCa, zCi, zCb, zCs, zCf, zCn, zCt, zCm, zCp]
  refine HL_nil ?_
  refine hN3 _ _ ?_
  try clear hN3 N3
  have hsame : o1 = o2 ∧ e1 = e2 := by
    by_cases hok : SetOk l ∧ SetOk m
    · exact opSpec_same hs1 hs2 hok ⟨hok.2, hok.1⟩ (fun n => Bool.and_comm _ _)
    · rcases hs1 with ⟨_, h1, h2⟩ | ⟨h, _⟩
      · rcases hs2 with ⟨_, h3, h4⟩ | ⟨h, _⟩
        · exact ⟨by rw [h2, h4], by rw [h1, h3]⟩
        · exact absurd ⟨h.2, h.1⟩ hok
      · exact absurd h hok
  obtain ⟨rfl, rfl⟩ := hsame
  have hn1 := opSpec_len hs1
  refine HC_seq fun N4 hN4 => ?_
  refine HC_seq fun N5 hN5 => ?_
  refine HC_region ?_
  -- operation 0
  refine' HL_call rfl en37 (call_fn EvL.nil.evs) (alive8) ?_
  rintro _ _ ⟨rfl, rfl⟩
  simp only [zS0, zS1, zTn, Nat.reduceAdd, Nat.reduceMul, Int.reduceToNat, zG0, zG1, zG2, zCa, zCi, zCb, zCs, zCf, zCn, zCt, zCm, zCp, decide_true, eq_self]
  refine' HL_q rfl rfl (QV_un (Ev.tmp rfl) ?hr) ?_
  case hr => intro w; first | (go_simp; done) | (go_simp; rfl)
  simp only [zS0, zS1, zTn, Nat.reduceAdd, Nat.reduceMul, Int.reduceToNat, zG0, zG1, zG2, zCa, zCi, zCb, zCs, zCf, zCn, zCt, zCm, zCp, decide_true, eq_self]
  refine' HL_q rfl rfl (QV_move (Ev.tmp rfl)) ?_
  simp only [zS0, zS1, zTn, Nat.reduceAdd, Nat.reduceMul, Int.reduceToNat, zG0, zG1, zG2, zCa, zCi, zCb, zCs, zCf, zCn, zCt, zCm, zCp, decide_true, eq_self]
  first
    | (refine HL_skip rfl ?_; simp only [zS0, zS1, zTn, Nat.reduceAdd, Nat.reduceMul, Int.reduceToNat, zG0, zG1, zG2, zCa, zCi, zCb, zCs, zCf, zCn, zCt, zCm, zCp, decide_true, eq_self])
    |
      refine' HL_q rfl rfl (QV_move (Ev.tmp rfl)) ?_
      simp only [zS0, zS1, zTn, Nat.reduceAdd, Nat.reduceMul, Int.reduceToNat, zG0, zG1, zG2, zCa, zCi, zCb, zCs, zCf, zCn, zCt, zCm, zCp, decide_true, eq_self]
  first
    | (refine HL_skip rfl ?_; simp only [zS0, zS1, zTn, Nat.reduceAdd, Nat.reduceMul, Int.reduceToNat, zG0, zG1, zG2, zCa, zCi, zCb, zCs, zCf, zCn, zCt, zCm, zCp, decide_true, eq_self])
    |
      refine' HL_q rfl rfl (QV_move (Ev.tmp rfl)) ?_
      simp only [zS0, zS1, zTn, Nat.reduceAdd, Nat.reduceMul, Int.reduceToNat, zG0, zG1, zG2, zCa, zCi, zCb, zCs, zCf, zCn, zCt, zCm, zCp, decide_true, eq_self]
  first
    | (refine HL_skip rfl ?_; simp only [zS0, zS1, zTn, Nat.reduceAdd, Nat.reduceMul, Int.reduceToNat, zG0, zG1, zG2, zCa, zCi, zCb, zCs, zCf, zCn, zCt, zCm, zCp, decide_true, eq_self])
    |
      first
        | (refine' HL_q rfl rfl (QV_neq_y (Ev.tmp rfl) (Ev.tmp rfl) ?hb) ?_; case hb => omega)
        | (refine' HL_q rfl rfl (QV_neq_n (Ev.tmp rfl) (Ev.tmp rfl) ?hb) ?_; case hb => omega)
        | (refine' HL_q rfl rfl (QV_neq (Ev.tmp rfl) (Ev.tmp rfl)) ?_)
      simp only [zS0, zS1, zTn, Nat.reduceAdd, Nat.reduceMul, Int.reduceToNat, zG0, zG1, zG2, zCa, zCi, zCb, zCs, zCf, zCn, zCt, zCm, zCp, decide_true, eq_self]
  refine' HL_q rfl rfl (QV_pick (Ev.tmp rfl) Ev.const (Ev.tmp rfl)) ?_
  simp only [if_true, if_false, Bool.false_eq_true, reduceIte, zS0, zS1, zTn, Nat.reduceAdd, Nat.reduceMul, Int.reduceToNat, zG0, zG1, zG2, zCa, zCi, zCb, zCs, zCf, zCn, zCt, zCm, zCp, decide_true, eq_self]
  refine' HL_q rfl rfl (QV_move (Ev.tmp rfl)) ?_
  simp only [zS0, zS1, zTn, Nat.reduceAdd, Nat.reduceMul, Int.reduceToNat, zG0, zG1, zG2, zCa, zCi, zCb, zCs, zCf, zCn, zCt, zCm, zCp, decide_true, eq_self]
  first
    | (refine HL_skip rfl ?_; simp only [zS0, zS1, zTn, Nat.reduceAdd, Nat.reduceMul, Int.reduceToNat, zG0, zG1, zG2, zCa, zCi, zCb, zCs, zCf, zCn, zCt, zCm, zCp, decide_true, eq_self])
    |
      refine' HL_q rfl rfl (QV_move (Ev.tmp rfl)) ?_
      simp only [zS0, zS1, zTn, Nat.reduceAdd, Nat.reduceMul, Int.reduceToNat, zG0, zG1, zG2, zCa, zCi, zCb, zCs, zCf, zCn, zCt, zCm, zCp, decide_true, eq_self]
  first
    | (refine HL_skip rfl ?_; simp only [zS0, zS1, zTn, Nat.reduceAdd, Nat.reduceMul, Int.reduceToNat, zG0, zG1, zG2, zCa, zCi, zCb, zCs, zCf, zCn, zCt, zCm, zCp, decide_true, eq_self])
    |
      refine' HL_q rfl rfl (QV_move (Ev.tmp rfl)) ?_
      simp only [zS0, zS1, zTn, Nat.reduceAdd, Nat.reduceMul, Int.reduceToNat, zG0, zG1, zG2, zCa, zCi, zCb, zCs, zCf, zCn, zCt, zCm, zCp, decide_true, eq_self]
  -- operation 10
  refine' HL_call rfl en38 (call_fn (EvL.cons (Ev.tmp rfl) (EvL.cons (Ev.tmp rfl) EvL.nil)).evs) ((same_calls (l := o1) (m := o1) (hl1.sub (by (repeat (first | with_reducible exact List.Sublist.refl _ | with_reducible exact List.nil_sublist _ | with_reducible apply List.Sublist.cons_cons | with_reducible apply List.Sublist.cons)))) (hl2.sub (by (repeat (first | with_reducible exact List.Sublist.refl _ | with_reducible exact List.nil_sublist _ | with_reducible apply List.Sublist.cons_cons | with_reducible apply List.Sublist.cons)))) hn1 hn1)) ?_
  rintro _ _ ⟨rfl, rfl⟩
  simp only [zS0, zS1, zTn, Nat.reduceAdd, Nat.reduceMul, Int.reduceToNat, zG0, zG1, zG2, zCa, zCi, zCb, zCs, zCf, zCn, zCt, zCm, zCp, decide_true, eq_self]
  first
    | (refine HL_skip rfl ?_; simp only [zS0, zS1, zTn, Nat.reduceAdd, Nat.reduceMul, Int.reduceToNat, zG0, zG1, zG2, zCa, zCi, zCb, zCs, zCf, zCn, zCt, zCm, zCp, decide_true, eq_self])
    |
      refine' HL_q rfl rfl (QV_un (Ev.tmp rfl) ?hr) ?_
      case hr => intro w; first | (go_simp; done) | (go_simp; rfl)
      simp only [zS0, zS1, zTn, Nat.reduceAdd, Nat.reduceMul, Int.reduceToNat, zG0, zG1, zG2, zCa, zCi, zCb, zCs, zCf, zCn, zCt, zCm, zCp, decide_true, eq_self]
  refine' HL_q rfl rfl (QV_pick (Ev.tmp rfl) Ev.const (Ev.tmp rfl)) ?_
  simp only [if_true, if_false, Bool.false_eq_true, reduceIte, zS0, zS1, zTn, Nat.reduceAdd, Nat.reduceMul, Int.reduceToNat, zG0, zG1, zG2, zCa, zCi, zCb, zCs, zCf, zCn, zCt, zCm, zCp, decide_true, eq_self]
  refine HL_nil ?_
  refine hN5 _ _ ?_
  try clear hN5 N5
  refine HC_false rfl ?_
  refine HC_skip ?_
  refine hN4 _ _ ?_
  try clear hN4 N4
  refine HC_mid [] [false, false, false, false, false, false, true, false, false, false, false, false, false, false, false, false, false, false, false, false, false, false, false, false, false, false, false, false, false, false, false, false, false, false, false, false, false, false, true, true, true, true, true, true, true, true, true, true, true, true, true, true, true, true, true, true, true, true, true] (fun vs RR => vs = [] ∧ RR = []) (fun NM7 hM7 => ?first) ?rest
  case first =>
    rcases Nat.eq_zero_or_pos e1 with h0 | h0
    · subst h0
      obtain ⟨k1, s1, m1⟩ := opSpec_ok hs1 rfl
      have n1 := m1 n
      obtain ⟨p, hp⟩ : ∃ p, memR n l = p := ⟨_, rfl⟩
      obtain ⟨q, hq⟩ : ∃ q, memR n m = q := ⟨_, rfl⟩
      rw [hp, hq] at n1
      cases p <;> cases q <;> simp only [Bool.and_true, Bool.and_false, Bool.and_self] at n1
      all_goals
        refine HC_seq fun N8 hN8 => ?_
        refine HC_region ?_
        refine' HL_q rfl rfl (QV_move (Ev.tmp rfl)) ?_
        simp only [zS0, zS1, zTn, Nat.reduceAdd, Nat.reduceMul, Int.reduceToNat, zG0, zG1, zG2, zCa, zCi, zCb, zCs, zCf, zCn, zCt, zCm, zCp, n1, hp, hq]
        first
          | (refine' HL_q rfl rfl (QV_eql_y (Ev.tmp rfl) Ev.const ?hb) ?_; case hb => omega)
          | (refine' HL_q rfl rfl (QV_eql_n (Ev.tmp rfl) Ev.const ?hb) ?_; case hb => omega)
          | (refine' HL_q rfl rfl (QV_eql (Ev.tmp rfl) Ev.const) ?_)
        simp only [zS0, zS1, zTn, Nat.reduceAdd, Nat.reduceMul, Int.reduceToNat, zG0, zG1, zG2, zCa, zCi, zCb, zCs, zCf, zCn, zCt, zCm, zCp, n1, hp, hq]
        refine' HL_q rfl rfl (QV_move (Ev.tmp rfl)) ?_
        simp only [zS0, zS1, zTn, Nat.reduceAdd, Nat.reduceMul, Int.reduceToNat, zG0, zG1, zG2, zCa, zCi, zCb, zCs, zCf, zCn, zCt, zCm, zCp, n1, hp, hq]
        first
          | (refine HL_skip rfl ?_; simp only [zS0, zS1, zTn, Nat.reduceAdd, Nat.reduceMul, Int.reduceToNat, zG0, zG1, zG2, zCa, zCi, zCb, zCs, zCf, zCn, zCt, zCm, zCp, n1, hp, hq])
          |
            refine' HL_q rfl rfl (QV_move (Ev.tmp rfl)) ?_
            simp only [zS0, zS1, zTn, Nat.reduceAdd, Nat.reduceMul, Int.reduceToNat, zG0, zG1, zG2, zCa, zCi, zCb, zCs, zCf, zCn, zCt, zCm, zCp, n1, hp, hq]
        -- operation 4
        refine' HL_call rfl en45 (call_fn (EvL.cons (Ev.tmp rfl) EvL.nil).evs) ((check_calls (l := o1) (hl1.sub (by (repeat (first | with_reducible exact List.Sublist.refl _ | with_reducible exact List.nil_sublist _ | with_reducible apply List.Sublist.cons_cons | with_reducible apply List.Sublist.cons)))) (wide_of s1.1) hn1)) ?_
        rintro _ _ ⟨b, rfl, hb, rfl⟩
        obtain rfl : b = true := hb.2 s1
        simp only [zS0, zS1, zTn, Nat.reduceAdd, Nat.reduceMul, Int.reduceToNat, zG0, zG1, zG2, zCa, zCi, zCb, zCs, zCf, zCn, zCt, zCm, zCp, n1, hp, hq]
        first
          | (refine HL_skip rfl ?_; simp only [zS0, zS1, zTn, Nat.reduceAdd, Nat.reduceMul, Int.reduceToNat, zG0, zG1, zG2, zCa, zCi, zCb, zCs, zCf, zCn, zCt, zCm, zCp, n1, hp, hq])
          |
            refine' HL_q rfl rfl (QV_un (Ev.tmp rfl) ?hr) ?_
            case hr => intro w; first | (go_simp; done) | (go_simp; rfl)
            simp only [zS0, zS1, zTn, Nat.reduceAdd, Nat.reduceMul, Int.reduceToNat, zG0, zG1, zG2, zCa, zCi, zCb, zCs, zCf, zCn, zCt, zCm, zCp, n1, hp, hq]
        first
          | (refine HL_skip rfl ?_; simp only [zS0, zS1, zTn, Nat.reduceAdd, Nat.reduceMul, Int.reduceToNat, zG0, zG1, zG2, zCa, zCi, zCb, zCs, zCf, zCn, zCt, zCm, zCp, n1, hp, hq])
          |
            refine' HL_q rfl rfl (QV_move (Ev.tmp rfl)) ?_
            simp only [zS0, zS1, zTn, Nat.reduceAdd, Nat.reduceMul, Int.reduceToNat, zG0, zG1, zG2, zCa, zCi, zCb, zCs, zCf, zCn, zCt, zCm, zCp, n1, hp, hq]
        first
          | (refine HL_skip rfl ?_; simp only [zS0, zS1, zTn, Nat.reduceAdd, Nat.reduceMul, Int.reduceToNat, zG0, zG1, zG2, zCa, zCi, zCb, zCs, zCf, zCn, zCt, zCm, zCp, n1, hp, hq])
          |
            refine' HL_q rfl rfl (QV_move (Ev.tmp rfl)) ?_
            simp only [zS0, zS1, zTn, Nat.reduceAdd, Nat.reduceMul, Int.reduceToNat, zG0, zG1, zG2, zCa, zCi, zCb, zCs, zCf, zCn, zCt, zCm, zCp, n1, hp, hq]
        first
          | (refine HL_skip rfl ?_; simp only [zS0, zS1, zTn, Nat.reduceAdd, Nat.reduceMul, Int.reduceToNat, zG0, zG1, zG2, zCa, zCi, zCb, zCs, zCf, zCn, zCt, zCm, zCp, n1, hp, hq])
          |
            refine' HL_q rfl rfl (QV_move (Ev.tmp rfl)) ?_
            simp only [zS0, zS1, zTn, Nat.reduceAdd, Nat.reduceMul, Int.reduceToNat, zG0, zG1, zG2, zCa, zCi, zCb, zCs, zCf, zCn, zCt, zCm, zCp, n1, hp, hq]
        -- operation 9
        refine' HL_call rfl en46 (call_fn (EvL.cons (Ev.tmp rfl) (EvL.cons (Ev.tmp rfl) EvL.nil)).evs) ((has_calls (l := o1) (n := n) (hl1.sub (by (repeat (first | with_reducible exact List.Sublist.refl _ | with_reducible exact List.nil_sublist _ | with_reducible apply List.Sublist.cons_cons | with_reducible apply List.Sublist.cons)))) hn1)) ?_
        rintro _ _ ⟨rfl, rfl⟩
        simp only [zS0, zS1, zTn, Nat.reduceAdd, Nat.reduceMul, Int.reduceToNat, zG0, zG1, zG2, zCa, zCi, zCb, zCs, zCf, zCn, zCt, zCm, zCp, n1, hp, hq]
        first
          | (refine HL_skip rfl ?_; simp only [zS0, zS1, zTn, Nat.reduceAdd, Nat.reduceMul, Int.reduceToNat, zG0, zG1, zG2, zCa, zCi, zCb, zCs, zCf, zCn, zCt, zCm, zCp, n1, hp, hq])
          |
            refine' HL_q rfl rfl (QV_move (Ev.tmp rfl)) ?_
            simp only [zS0, zS1, zTn, Nat.reduceAdd, Nat.reduceMul, Int.reduceToNat, zG0, zG1, zG2, zCa, zCi, zCb, zCs, zCf, zCn, zCt, zCm, zCp, n1, hp, hq]
        first
          | (refine HL_skip rfl ?_; simp only [zS0, zS1, zTn, Nat.reduceAdd, Nat.reduceMul, Int.reduceToNat, zG0, zG1, zG2, zCa, zCi, zCb, zCs, zCf, zCn, zCt, zCm, zCp, n1, hp, hq])
          |
            refine' HL_q rfl rfl (QV_move (Ev.tmp rfl)) ?_
            simp only [zS0, zS1, zTn, Nat.reduceAdd, Nat.reduceMul, Int.reduceToNat, zG0, zG1, zG2, zCa, zCi, zCb, zCs, zCf, zCn, zCt, zCm, zCp, n1, hp, hq]
        -- operation 12
        refine' HL_call rfl en46 (call_fn (EvL.cons (Ev.tmp rfl) (EvL.cons (Ev.tmp rfl) EvL.nil)).evs) ((has_calls (l := l) (n := n) (hs' _) hl)) ?_
        rintro _ _ ⟨rfl, rfl⟩
        simp only [zS0, zS1, zTn, Nat.reduceAdd, Nat.reduceMul, Int.reduceToNat, zG0, zG1, zG2, zCa, zCi, zCb, zCs, zCf, zCn, zCt, zCm, zCp, n1, hp, hq]
        first
          | (refine HL_skip rfl ?_; simp only [zS0, zS1, zTn, Nat.reduceAdd, Nat.reduceMul, Int.reduceToNat, zG0, zG1, zG2, zCa, zCi, zCb, zCs, zCf, zCn, zCt, zCm, zCp, n1, hp, hq])
          |
            refine' HL_q rfl rfl (QV_move (Ev.tmp rfl)) ?_
            simp only [zS0, zS1, zTn, Nat.reduceAdd, Nat.reduceMul, Int.reduceToNat, zG0, zG1, zG2, zCa, zCi, zCb, zCs, zCf, zCn, zCt, zCm, zCp, n1, hp, hq]
        first
          | (refine HL_skip rfl ?_; simp only [zS0, zS1, zTn, Nat.reduceAdd, Nat.reduceMul, Int.reduceToNat, zG0, zG1, zG2, zCa, zCi, zCb, zCs, zCf, zCn, zCt, zCm, zCp, n1, hp, hq])
          |
            refine' HL_q rfl rfl (QV_move (Ev.tmp rfl)) ?_
            simp only [zS0, zS1, zTn, Nat.reduceAdd, Nat.reduceMul, Int.reduceToNat, zG0, zG1, zG2, zCa, zCi, zCb, zCs, zCf, zCn, zCt, zCm, zCp, n1, hp, hq]
        first
          | (refine HL_skip rfl ?_; simp only [zS0, zS1, zTn, Nat.reduceAdd, Nat.reduceMul, Int.reduceToNat, zG0, zG1, zG2, zCa, zCi, zCb, zCs, zCf, zCn, zCt, zCm, zCp, n1, hp, hq])
          |
            refine' HL_q rfl rfl (QV_move (Ev.tmp rfl)) ?_
            simp only [zS0, zS1, zTn, Nat.reduceAdd, Nat.reduceMul, Int.reduceToNat, zG0, zG1, zG2, zCa, zCi, zCb, zCs, zCf, zCn, zCt, zCm, zCp, n1, hp, hq]
        first
          | (refine HL_skip rfl ?_; simp only [zS0, zS1, zTn, Nat.reduceAdd, Nat.reduceMul, Int.reduceToNat, zG0, zG1, zG2, zCa, zCi, zCb, zCs, zCf, zCn, zCt, zCm, zCp, n1, hp, hq])
          |
            refine' HL_call rfl en46 (call_fn (EvL.cons (Ev.tmp rfl) (EvL.cons (Ev.tmp rfl) EvL.nil)).evs) ((has_calls (l := m) (n := n) (ht' _) hm)) ?_
            rintro _ _ ⟨rfl, rfl⟩
            simp only [zS0, zS1, zTn, Nat.reduceAdd, Nat.reduceMul, Int.reduceToNat, zG0, zG1, zG2, zCa, zCi, zCb, zCs, zCf, zCn, zCt, zCm, zCp, n1, hp, hq]
        first
          | (refine HL_skip rfl ?_; simp only [zS0, zS1, zTn, Nat.reduceAdd, Nat.reduceMul, Int.reduceToNat, zG0, zG1, zG2, zCa, zCi, zCb, zCs, zCf, zCn, zCt, zCm, zCp, n1, hp, hq])
          |
            refine' HL_q rfl rfl (QV_pick (Ev.tmp rfl) (Ev.tmp rfl) Ev.const) ?_
            simp only [if_true, if_false, Bool.false_eq_true, reduceIte, zS0, zS1, zTn, Nat.reduceAdd, Nat.reduceMul, Int.reduceToNat, zG0, zG1, zG2, zCa, zCi, zCb, zCs, zCf, zCn, zCt, zCm, zCp, n1, hp, hq]
        first
          | (refine HL_skip rfl ?_; simp only [zS0, zS1, zTn, Nat.reduceAdd, Nat.reduceMul, Int.reduceToNat, zG0, zG1, zG2, zCa, zCi, zCb, zCs, zCf, zCn, zCt, zCm, zCp, n1, hp, hq])
          |
            refine' HL_q rfl rfl (QV_bin (Ev.tmp rfl) (Ev.tmp rfl) ?hr) ?_
            case hr => intro w; first | (go_simp; done) | (go_simp; rfl)
            simp only [zS0, zS1, zTn, Nat.reduceAdd, Nat.reduceMul, Int.reduceToNat, zG0, zG1, zG2, zCa, zCi, zCb, zCs, zCf, zCn, zCt, zCm, zCp, n1, hp, hq]
        first
          | (refine HL_skip rfl ?_; simp only [zS0, zS1, zTn, Nat.reduceAdd, Nat.reduceMul, Int.reduceToNat, zG0, zG1, zG2, zCa, zCi, zCb, zCs, zCf, zCn, zCt, zCm, zCp, n1, hp, hq])
          |
            refine' HL_q rfl rfl (QV_pick (Ev.tmp rfl) Ev.const (Ev.tmp rfl)) ?_
            simp only [if_true, if_false, Bool.false_eq_true, reduceIte, zS0, zS1, zTn, Nat.reduceAdd, Nat.reduceMul, Int.reduceToNat, zG0, zG1, zG2, zCa, zCi, zCb, zCs, zCf, zCn, zCt, zCm, zCp, n1, hp, hq]
        refine' HL_q rfl rfl (QV_pick (Ev.tmp rfl) (Ev.tmp rfl) Ev.const) ?_
        simp only [if_true, if_false, Bool.false_eq_true, reduceIte, zS0, zS1, zTn, Nat.reduceAdd, Nat.reduceMul, Int.reduceToNat, zG0, zG1, zG2, zCa, zCi, zCb, zCs, zCf, zCn, zCt, zCm, zCp, n1, hp, hq]
        refine HL_nil ?_
        refine hN8 _ _ ?_
        try clear hN8 N8
        refine HC_false rfl ?_
        refine HC_skip ?_
        try simp only [thenK]
        refine' meetM hM7 Gets.nil ?ag1 ?le ⟨rfl, rfl⟩
        case ag1 => (simp only [setL, List.set_cons_zero, List.set_cons_succ]; exact (Ag.keep (Ag.keep (Ag.keep (Ag.keep (Ag.keep (Ag.keep (Ag.any (Ag.keep (Ag.keep (Ag.keep (Ag.keep (Ag.keep (Ag.keep (Ag.keep (Ag.keep (Ag.keep (Ag.keep (Ag.keep (Ag.keep (Ag.keep (Ag.keep (Ag.keep (Ag.keep (Ag.keep (Ag.keep (Ag.keep (Ag.keep (Ag.keep (Ag.keep (Ag.keep (Ag.keep (Ag.keep (Ag.keep (Ag.keep (Ag.keep (Ag.keep (Ag.keep (Ag.keep (Ag.any (Ag.any (Ag.any (Ag.any (Ag.any (Ag.any (Ag.any (Ag.any (Ag.any (Ag.any (Ag.any (Ag.any (Ag.any (Ag.any (Ag.any (Ag.any (Ag.any (Ag.any (Ag.any (Ag.any (Ag.any Ag.nil))))))))))))))))))))))))))))))))))))))))))))))))))))))))))))
        case le => (first | with_reducible exact Le.refl | (refine Le.of ?_; (repeat (first | with_reducible exact Sp.refl | with_reducible exact Sp.nil | (apply Sp.pick; focus ((repeat (first | with_reducible exact Rm.head | with_reducible apply Rm.tail)); done)) | with_reducible refine Sp.drop ?_))))
    · skip
      refine HC_seq fun N8 hN8 => ?_
      refine HC_region ?_
      refine' HL_q rfl rfl (QV_move (Ev.tmp rfl)) ?_
      simp only [zS0, zS1, zTn, Nat.reduceAdd, Nat.reduceMul, Int.reduceToNat, zG0, zG1, zG2, zCa, zCi, zCb, zCs, zCf, zCn, zCt, zCm, zCp, Nat.add_zero]
      first
        | (refine' HL_q rfl rfl (QV_eql_y (Ev.tmp rfl) Ev.const ?hb) ?_; case hb => omega)
        | (refine' HL_q rfl rfl (QV_eql_n (Ev.tmp rfl) Ev.const ?hb) ?_; case hb => omega)
        | (refine' HL_q rfl rfl (QV_eql (Ev.tmp rfl) Ev.const) ?_)
      simp only [zS0, zS1, zTn, Nat.reduceAdd, Nat.reduceMul, Int.reduceToNat, zG0, zG1, zG2, zCa, zCi, zCb, zCs, zCf, zCn, zCt, zCm, zCp, Nat.add_zero]
      refine' HL_q rfl rfl (QV_move (Ev.tmp rfl)) ?_
      simp only [zS0, zS1, zTn, Nat.reduceAdd, Nat.reduceMul, Int.reduceToNat, zG0, zG1, zG2, zCa, zCi, zCb, zCs, zCf, zCn, zCt, zCm, zCp, Nat.add_zero]
      first
        | (refine HL_skip rfl ?_; simp only [zS0, zS1, zTn, Nat.reduceAdd, Nat.reduceMul, Int.reduceToNat, zG0, zG1, zG2, zCa, zCi, zCb, zCs, zCf, zCn, zCt, zCm, zCp, Nat.add_zero])
        |
          refine' HL_q rfl rfl (QV_move (Ev.tmp rfl)) ?_
          simp only [zS0, zS1, zTn, Nat.reduceAdd, Nat.reduceMul, Int.reduceToNat, zG0, zG1, zG2, zCa, zCi, zCb, zCs, zCf, zCn, zCt, zCm, zCp, Nat.add_zero]
      -- operation 4
      refine HL_skip rfl ?_
      simp only [zS0, zS1, zTn, Nat.reduceAdd, Nat.reduceMul, Int.reduceToNat, zG0, zG1, zG2, zCa, zCi, zCb, zCs, zCf, zCn, zCt, zCm, zCp, Nat.add_zero]
      first
        | (refine HL_skip rfl ?_; simp only [zS0, zS1, zTn, Nat.reduceAdd, Nat.reduceMul, Int.reduceToNat, zG0, zG1, zG2, zCa, zCi, zCb, zCs, zCf, zCn, zCt, zCm, zCp, Nat.add_zero])
        |
          refine' HL_q rfl rfl (QV_un (Ev.tmp rfl) ?hr) ?_
          case hr => intro w; first | (go_simp; done) | (go_simp; rfl)
          simp only [zS0, zS1, zTn, Nat.reduceAdd, Nat.reduceMul, Int.reduceToNat, zG0, zG1, zG2, zCa, zCi, zCb, zCs, zCf, zCn, zCt, zCm, zCp, Nat.add_zero]
      first
        | (refine HL_skip rfl ?_; simp only [zS0, zS1, zTn, Nat.reduceAdd, Nat.reduceMul, Int.reduceToNat, zG0, zG1, zG2, zCa, zCi, zCb, zCs, zCf, zCn, zCt, zCm, zCp, Nat.add_zero])
        |
          refine' HL_q rfl rfl (QV_move (Ev.tmp rfl)) ?_
          simp only [zS0, zS1, zTn, Nat.reduceAdd, Nat.reduceMul, Int.reduceToNat, zG0, zG1, zG2, zCa, zCi, zCb, zCs, zCf, zCn, zCt, zCm, zCp, Nat.add_zero]
      first
        | (refine HL_skip rfl ?_; simp only [zS0, zS1, zTn, Nat.reduceAdd, Nat.reduceMul, Int.reduceToNat, zG0, zG1, zG2, zCa, zCi, zCb, zCs, zCf, zCn, zCt, zCm, zCp, Nat.add_zero])
        |
          refine' HL_q rfl rfl (QV_move (Ev.tmp rfl)) ?_
          simp only [zS0, zS1, zTn, Nat.reduceAdd, Nat.reduceMul, Int.reduceToNat, zG0, zG1, zG2, zCa, zCi, zCb, zCs, zCf, zCn, zCt, zCm, zCp, Nat.add_zero]
      first
        | (refine HL_skip rfl ?_; simp only [zS0, zS1, zTn, Nat.reduceAdd, Nat.reduceMul, Int.reduceToNat, zG0, zG1, zG2, zCa, zCi, zCb, zCs, zCf, zCn, zCt, zCm, zCp, Nat.add_zero])
        |
          refine' HL_q rfl rfl (QV_move (Ev.tmp rfl)) ?_
          simp only [zS0, zS1, zTn, Nat.reduceAdd, Nat.reduceMul, Int.reduceToNat, zG0, zG1, zG2, zCa, zCi, zCb, zCs, zCf, zCn, zCt, zCm, zCp, Nat.add_zero]
      -- operation 9
      refine HL_skip rfl ?_
      simp only [zS0, zS1, zTn, Nat.reduceAdd, Nat.reduceMul, Int.reduceToNat, zG0, zG1, zG2, zCa, zCi, zCb, zCs, zCf, zCn, zCt, zCm, zCp, Nat.add_zero]
      first
        | (refine HL_skip rfl ?_; simp only [zS0, zS1, zTn, Nat.reduceAdd, Nat.reduceMul, Int.reduceToNat, zG0, zG1, zG2, zCa, zCi, zCb, zCs, zCf, zCn, zCt, zCm, zCp, Nat.add_zero])
        |
          refine' HL_q rfl rfl (QV_move (Ev.tmp rfl)) ?_
          simp only [zS0, zS1, zTn, Nat.reduceAdd, Nat.reduceMul, Int.reduceToNat, zG0, zG1, zG2, zCa, zCi, zCb, zCs, zCf, zCn, zCt, zCm, zCp, Nat.add_zero]
      first
        | (refine HL_skip rfl ?_; simp only [zS0, zS1, zTn, Nat.reduceAdd, Nat.reduceMul, Int.reduceToNat, zG0, zG1, zG2, zCa, zCi, zCb, zCs, zCf, zCn, zCt, zCm, zCp, Nat.add_zero])
        |
          refine' HL_q rfl rfl (QV_move (Ev.tmp rfl)) ?_
          simp only [zS0, zS1, zTn, Nat.reduceAdd, Nat.reduceMul, Int.reduceToNat, zG0, zG1, zG2, zCa, zCi, zCb, zCs, zCf, zCn, zCt, zCm, zCp, Nat.add_zero]
      -- operation 12
      refine HL_skip rfl ?_
      simp only [zS0, zS1, zTn, Nat.reduceAdd, Nat.reduceMul, Int.reduceToNat, zG0, zG1, zG2, zCa, zCi, zCb, zCs, zCf, zCn, zCt, zCm, zCp, Nat.add_zero]
      first
        | (refine HL_skip rfl ?_; simp only [zS0, zS1, zTn, Nat.reduceAdd, Nat.reduceMul, Int.reduceToNat, zG0, zG1, zG2, zCa, zCi, zCb, zCs, zCf, zCn, zCt, zCm, zCp, Nat.add_zero])
        |
          refine' HL_q rfl rfl (QV_move (Ev.tmp rfl)) ?_
          simp only [zS0, zS1, zTn, Nat.reduceAdd, Nat.reduceMul, Int.reduceToNat, zG0, zG1, zG2, zCa, zCi, zCb, zCs, zCf, zCn, zCt, zCm, zCp, Nat.add_zero]
      first
        | (refine HL_skip rfl ?_; simp only [zS0, zS1, zTn, Nat.reduceAdd, Nat.reduceMul, Int.reduceToNat, zG0, zG1, zG2, zCa, zCi, zCb, zCs, zCf, zCn, zCt, zCm, zCp, Nat.add_zero])
        |
          refine' HL_q rfl rfl (QV_move (Ev.tmp rfl)) ?_
          simp only [zS0, zS1, zTn, Nat.reduceAdd, Nat.reduceMul, Int.reduceToNat, zG0, zG1, zG2, zCa, zCi, zCb, zCs, zCf, zCn, zCt, zCm, zCp, Nat.add_zero]
      first
        | (refine HL_skip rfl ?_; simp only [zS0, zS1, zTn, Nat.reduceAdd, Nat.reduceMul, Int.reduceToNat, zG0, zG1, zG2, zCa, zCi, zCb, zCs, zCf, zCn, zCt, zCm, zCp, Nat.add_zero])
        |
          refine' HL_q rfl rfl (QV_move (Ev.tmp rfl)) ?_
          simp only [zS0, zS1, zTn, Nat.reduceAdd, Nat.reduceMul, Int.reduceToNat, zG0, zG1, zG2, zCa, zCi, zCb, zCs, zCf, zCn, zCt, zCm, zCp, Nat.add_zero]
      -- operation 16
      refine HL_skip rfl ?_
      simp only [zS0, zS1, zTn, Nat.reduceAdd, Nat.reduceMul, Int.reduceToNat, zG0, zG1, zG2, zCa, zCi, zCb, zCs, zCf, zCn, zCt, zCm, zCp, Nat.add_zero]
      first
        | (refine HL_skip rfl ?_; simp only [zS0, zS1, zTn, Nat.reduceAdd, Nat.reduceMul, Int.reduceToNat, zG0, zG1, zG2, zCa, zCi, zCb, zCs, zCf, zCn, zCt, zCm, zCp, Nat.add_zero])
        |
          refine' HL_q rfl rfl (QV_pick (Ev.tmp rfl) (Ev.tmp rfl) Ev.const) ?_
          simp only [if_true, if_false, Bool.false_eq_true, reduceIte, zS0, zS1, zTn, Nat.reduceAdd, Nat.reduceMul, Int.reduceToNat, zG0, zG1, zG2, zCa, zCi, zCb, zCs, zCf, zCn, zCt, zCm, zCp, Nat.add_zero]
      first
        | (refine HL_skip rfl ?_; simp only [zS0, zS1, zTn, Nat.reduceAdd, Nat.reduceMul, Int.reduceToNat, zG0, zG1, zG2, zCa, zCi, zCb, zCs, zCf, zCn, zCt, zCm, zCp, Nat.add_zero])
        |
          refine' HL_q rfl rfl (QV_bin (Ev.tmp rfl) (Ev.tmp rfl) ?hr) ?_
          case hr => intro w; first | (go_simp; done) | (go_simp; rfl)
          simp only [zS0, zS1, zTn, Nat.reduceAdd, Nat.reduceMul, Int.reduceToNat, zG0, zG1, zG2, zCa, zCi, zCb, zCs, zCf, zCn, zCt, zCm, zCp, Nat.add_zero]
      first
        | (refine HL_skip rfl ?_; simp only [zS0, zS1, zTn, Nat.reduceAdd, Nat.reduceMul, Int.reduceToNat, zG0, zG1, zG2, zCa, zCi, zCb, zCs, zCf, zCn, zCt, zCm, zCp, Nat.add_zero])
        |
          refine' HL_q rfl rfl (QV_pick (Ev.tmp rfl) Ev.const (Ev.tmp rfl)) ?_
          simp only [if_true, if_false, Bool.false_eq_true, reduceIte, zS0, zS1, zTn, Nat.reduceAdd, Nat.reduceMul, Int.reduceToNat, zG0, zG1, zG2, zCa, zCi, zCb, zCs, zCf, zCn, zCt, zCm, zCp, Nat.add_zero]
      refine' HL_q rfl rfl (QV_pick (Ev.tmp rfl) (Ev.tmp rfl) Ev.const) ?_
      simp only [if_true, if_false, Bool.false_eq_true, reduceIte, zS0, zS1, zTn, Nat.reduceAdd, Nat.reduceMul, Int.reduceToNat, zG0, zG1, zG2, zCa, zCi, zCb, zCs, zCf, zCn, zCt, zCm, zCp, Nat.add_zero]
      refine HL_nil ?_
      refine hN8 _ _ ?_
      try clear hN8 N8
      refine HC_false rfl ?_
      refine HC_skip ?_
      try simp only [thenK]
      refine' meetM hM7 Gets.nil ?ag2 ?le ⟨rfl, rfl⟩
      case ag2 => (simp only [setL, List.set_cons_zero, List.set_cons_succ]; exact (Ag.keep (Ag.keep (Ag.keep (Ag.keep (Ag.keep (Ag.keep (Ag.any (Ag.keep (Ag.keep (Ag.keep (Ag.keep (Ag.keep (Ag.keep (Ag.keep (Ag.keep (Ag.keep (Ag.keep (Ag.keep (Ag.keep (Ag.keep (Ag.keep (Ag.keep (Ag.keep (Ag.keep (Ag.keep (Ag.keep (Ag.keep (Ag.keep (Ag.keep (Ag.keep (Ag.keep (Ag.keep (Ag.keep (Ag.keep (Ag.keep (Ag.keep (Ag.keep (Ag.keep (Ag.any (Ag.any (Ag.any (Ag.any (Ag.any (Ag.any (Ag.any (Ag.any (Ag.any (Ag.any (Ag.any (Ag.any (Ag.any (Ag.any (Ag.any (Ag.any (Ag.any (Ag.any (Ag.any (Ag.any (Ag.any Ag.nil))))))))))))))))))))))))))))))))))))))))))))))))))))))))))))
      case le => (first | with_reducible exact Le.refl | (refine Le.of ?_; (repeat (first | with_reducible exact Sp.refl | with_reducible exact Sp.nil | (apply Sp.pick; focus ((repeat (first | with_reducible exact Rm.head | with_reducible apply Rm.tail)); done)) | with_reducible refine Sp.drop ?_))))
  case rest =>
    rintro _ _ u ⟨rfl, rfl⟩
    simp only [setL, fill, List.set_cons_zero, List.set_cons_succ, Nat.reduceAdd]
    refine HC_seq fun N10 hN10 => ?_
    refine HC_region ?_
    refine' HL_q rfl rfl (QV_move (Ev.tmp rfl)) ?_
    simp only [zS0, zS1, zTn, Nat.reduceAdd, Nat.reduceMul, Int.reduceToNat, zG0, zG1, zG2, zCa, zCi, zCb, zCs, zCf, zCn, zCt, zCm, zCp, Nat.add_zero]
    refine' HL_q rfl rfl (QV_move (Ev.tmp rfl)) ?_
    simp only [zS0, zS1, zTn, Nat.reduceAdd, Nat.reduceMul, Int.reduceToNat, zG0, zG1, zG2, zCa, zCi, zCb, zCs, zCf, zCn, zCt, zCm, zCp, Nat.add_zero]
    -- operation 2
    refine' HL_call rfl en47 (call_fn (EvL.cons (Ev.tmp rfl) (EvL.cons (Ev.tmp rfl) EvL.nil)).evs) ((meet_calls (l := l) (m := l) (hs' _) hw hl (hs' _) hw hl)) ?_
    rintro _ _ ⟨A3, c3, o3, e3, rfl, rfl, hl3, hs3⟩
    simp only [zS0, zS1, zTn, Nat.reduceAdd, Nat.reduceMul, Int.reduceToNat, zG0, zG1, zG2, zCa, zCi, zCb, zCs, zCf, zCn, zCt, zCm, zCp, Nat.add_zero]
    refine' HL_q rfl rfl (QV_move (Ev.tmp rfl)) ?_
    simp only [zS0, zS1, zTn, Nat.reduceAdd, Nat.reduceMul, Int.reduceToNat, zG0, zG1, zG2, zCa, zCi, zCb, zCs, zCf, zCn, zCt, zCm, zCp, Nat.add_zero]
    refine' HL_q rfl rfl (QV_extract (Ev.tmp rfl) rfl) ?_
    simp only [zS0, zS1, zTn, Nat.reduceAdd, Nat.reduceMul, Int.reduceToNat, zG0, zG1, zG2, zCa, zCi, zCb, zCs, zCf, zCn, zCt, zCm, zCp, Nat.add_zero]
    refine' HL_q rfl rfl (QV_extract (Ev.tmp rfl) rfl) ?_
    simp only [zS0, zS1, zTn, Nat.reduceAdd, Nat.reduceMul, Int.reduceToNat, zG0, zG1, zG2, zCa, zCi, zCb, zCs, zCf, zCn, zCt, zCm, zCp, Nat.add_zero]
    refine' HL_q rfl rfl (QV_assign (Ev.tmp rfl)) ?_
    simp only [zS0, zS1, zTn, Nat.reduceAdd, Nat.reduceMul, Int.reduceToNat, zG0, zG1, zG2, zCa, zCi, zCb, zCs, zCf, zCn, zCt, zCm, zCp, Nat.add_zero]
    refine' HL_q rfl rfl (QV_assign (Ev.tmp rfl)) ?_
    simp only [zS0, zS1, zTn, Nat.reduceAdd, Nat.reduceMul, Int.reduceToNat, zG0, zG1, zG2, zCa, zCi, zCb, zCs, zCf, zCn, zCt, zCm, zCp, Nat.add_zero]
    refine HL_nil ?_
    refine hN10 _ _ ?_
    try clear hN10 N10
    by_cases hok : SetOk l
    · obtain ⟨rfl, rfl⟩ := opSpec_eval hs3 ⟨hok, hok⟩ hok.1 hok.2 (fun n => Bool.and_self _)
      refine HC_seq fun N11 hN11 => ?_
      refine HC_region ?_
      refine' HL_q rfl rfl (QV_move (Ev.tmp rfl)) ?_
      simp only [zS0, zS1, zTn, Nat.reduceAdd, Nat.reduceMul, Int.reduceToNat, zG0, zG1, zG2, zCa, zCi, zCb, zCs, zCf, zCn, zCt, zCm, zCp, decide_true, eq_self]
      -- operation 1
      refine' HL_call rfl en45 (call_fn (EvL.cons (Ev.tmp rfl) EvL.nil).evs) ((check_calls (hs' _) hw hl)) ?_
      rintro _ _ ⟨b, rfl, hb, rfl⟩
      obtain rfl : b = true := hb.2 hok
      simp only [zS0, zS1, zTn, Nat.reduceAdd, Nat.reduceMul, Int.reduceToNat, zG0, zG1, zG2, zCa, zCi, zCb, zCs, zCf, zCn, zCt, zCm, zCp, decide_true, eq_self]
      refine' HL_q rfl rfl (QV_un (Ev.tmp rfl) ?hr) ?_
      case hr => intro w; first | (go_simp; done) | (go_simp; rfl)
      simp only [zS0, zS1, zTn, Nat.reduceAdd, Nat.reduceMul, Int.reduceToNat, zG0, zG1, zG2, zCa, zCi, zCb, zCs, zCf, zCn, zCt, zCm, zCp, decide_true, eq_self]
      refine' HL_q rfl rfl (QV_move (Ev.tmp rfl)) ?_
      simp only [zS0, zS1, zTn, Nat.reduceAdd, Nat.reduceMul, Int.reduceToNat, zG0, zG1, zG2, zCa, zCi, zCb, zCs, zCf, zCn, zCt, zCm, zCp, decide_true, eq_self]
      first
        | (refine HL_skip rfl ?_; simp only [zS0, zS1, zTn, Nat.reduceAdd, Nat.reduceMul, Int.reduceToNat, zG0, zG1, zG2, zCa, zCi, zCb, zCs, zCf, zCn, zCt, zCm, zCp, decide_true, eq_self])
        |
          refine' HL_q rfl rfl (QV_move (Ev.tmp rfl)) ?_
          simp only [zS0, zS1, zTn, Nat.reduceAdd, Nat.reduceMul, Int.reduceToNat, zG0, zG1, zG2, zCa, zCi, zCb, zCs, zCf, zCn, zCt, zCm, zCp, decide_true, eq_self]
      first
        | (refine HL_skip rfl ?_; simp only [zS0, zS1, zTn, Nat.reduceAdd, Nat.reduceMul, Int.reduceToNat, zG0, zG1, zG2, zCa, zCi, zCb, zCs, zCf, zCn, zCt, zCm, zCp, decide_true, eq_self])
        |
          first
            | (refine' HL_q rfl rfl (QV_eql_y (Ev.tmp rfl) Ev.const ?hb) ?_; case hb => omega)
            | (refine' HL_q rfl rfl (QV_eql_n (Ev.tmp rfl) Ev.const ?hb) ?_; case hb => omega)
            | (refine' HL_q rfl rfl (QV_eql (Ev.tmp rfl) Ev.const) ?_)
          simp only [zS0, zS1, zTn, Nat.reduceAdd, Nat.reduceMul, Int.reduceToNat, zG0, zG1, zG2, zCa, zCi, zCb, zCs, zCf, zCn, zCt, zCm, zCp, decide_true, eq_self]
      refine' HL_q rfl rfl (QV_pick (Ev.tmp rfl) (Ev.tmp rfl) Ev.const) ?_
      simp only [if_true, if_false, Bool.false_eq_true, reduceIte, zS0, zS1, zTn, Nat.reduceAdd, Nat.reduceMul, Int.reduceToNat, zG0, zG1, zG2, zCa, zCi, zCb, zCs, zCf, zCn, zCt, zCm, zCp, decide_true, eq_self]
      refine' HL_q rfl rfl (QV_move (Ev.tmp rfl)) ?_
      simp only [zS0, zS1, zTn, Nat.reduceAdd, Nat.reduceMul, Int.reduceToNat, zG0, zG1, zG2, zCa, zCi, zCb, zCs, zCf, zCn, zCt, zCm, zCp, decide_true, eq_self]
      first
        | (refine HL_skip rfl ?_; simp only [zS0, zS1, zTn, Nat.reduceAdd, Nat.reduceMul, Int.reduceToNat, zG0, zG1, zG2, zCa, zCi, zCb, zCs, zCf, zCn, zCt, zCm, zCp, decide_true, eq_self])
        |
          refine' HL_q rfl rfl (QV_move (Ev.tmp rfl)) ?_
          simp only [zS0, zS1, zTn, Nat.reduceAdd, Nat.reduceMul, Int.reduceToNat, zG0, zG1, zG2, zCa, zCi, zCb, zCs, zCf, zCn, zCt, zCm, zCp, decide_true, eq_self]
      -- operation 9
      refine' HL_call rfl en45 (call_fn (EvL.cons (Ev.tmp rfl) EvL.nil).evs) ((check_calls (hs' _) hw hl)) ?_
      rintro _ _ ⟨b, rfl, hb, rfl⟩
      obtain rfl : b = true := hb.2 hok
      simp only [zS0, zS1, zTn, Nat.reduceAdd, Nat.reduceMul, Int.reduceToNat, zG0, zG1, zG2, zCa, zCi, zCb, zCs, zCf, zCn, zCt, zCm, zCp, decide_true, eq_self]
      first
        | (refine HL_skip rfl ?_; simp only [zS0, zS1, zTn, Nat.reduceAdd, Nat.reduceMul, Int.reduceToNat, zG0, zG1, zG2, zCa, zCi, zCb, zCs, zCf, zCn, zCt, zCm, zCp, decide_true, eq_self])
        |
          refine' HL_q rfl rfl (QV_move (Ev.tmp rfl)) ?_
          simp only [zS0, zS1, zTn, Nat.reduceAdd, Nat.reduceMul, Int.reduceToNat, zG0, zG1, zG2, zCa, zCi, zCb, zCs, zCf, zCn, zCt, zCm, zCp, decide_true, eq_self]
      first
        | (refine HL_skip rfl ?_; simp only [zS0, zS1, zTn, Nat.reduceAdd, Nat.reduceMul, Int.reduceToNat, zG0, zG1, zG2, zCa, zCi, zCb, zCs, zCf, zCn, zCt, zCm, zCp, decide_true, eq_self])
        |
          refine' HL_q rfl rfl (QV_move (Ev.tmp rfl)) ?_
          simp only [zS0, zS1, zTn, Nat.reduceAdd, Nat.reduceMul, Int.reduceToNat, zG0, zG1, zG2, zCa, zCi, zCb, zCs, zCf, zCn, zCt, zCm, zCp, decide_true, eq_self]
      first
        | (refine HL_skip rfl ?_; simp only [zS0, zS1, zTn, Nat.reduceAdd, Nat.reduceMul, Int.reduceToNat, zG0, zG1, zG2, zCa, zCi, zCb, zCs, zCf, zCn, zCt, zCm, zCp, decide_true, eq_self])
        |
          first
            | (refine' HL_q rfl rfl (QV_eql_y (Ev.tmp rfl) Ev.const ?hb) ?_; case hb => omega)
            | (refine' HL_q rfl rfl (QV_eql_n (Ev.tmp rfl) Ev.const ?hb) ?_; case hb => omega)
            | (refine' HL_q rfl rfl (QV_eql (Ev.tmp rfl) Ev.const) ?_)
          simp only [zS0, zS1, zTn, Nat.reduceAdd, Nat.reduceMul, Int.reduceToNat, zG0, zG1, zG2, zCa, zCi, zCb, zCs, zCf, zCn, zCt, zCm, zCp, decide_true, eq_self]
      first
        | (refine HL_skip rfl ?_; simp only [zS0, zS1, zTn, Nat.reduceAdd, Nat.reduceMul, Int.reduceToNat, zG0, zG1, zG2, zCa, zCi, zCb, zCs, zCf, zCn, zCt, zCm, zCp, decide_true, eq_self])
        |
          refine' HL_q rfl rfl (QV_pick (Ev.tmp rfl) (Ev.tmp rfl) Ev.const) ?_
          simp only [if_true, if_false, Bool.false_eq_true, reduceIte, zS0, zS1, zTn, Nat.reduceAdd, Nat.reduceMul, Int.reduceToNat, zG0, zG1, zG2, zCa, zCi, zCb, zCs, zCf, zCn, zCt, zCm, zCp, decide_true, eq_self]
      first
        | (refine HL_skip rfl ?_; simp only [zS0, zS1, zTn, Nat.reduceAdd, Nat.reduceMul, Int.reduceToNat, zG0, zG1, zG2, zCa, zCi, zCb, zCs, zCf, zCn, zCt, zCm, zCp, decide_true, eq_self])
        |
          refine' HL_q rfl rfl (QV_move (Ev.tmp rfl)) ?_
          simp only [zS0, zS1, zTn, Nat.reduceAdd, Nat.reduceMul, Int.reduceToNat, zG0, zG1, zG2, zCa, zCi, zCb, zCs, zCf, zCn, zCt, zCm, zCp, decide_true, eq_self]
      first
        | (refine HL_skip rfl ?_; simp only [zS0, zS1, zTn, Nat.reduceAdd, Nat.reduceMul, Int.reduceToNat, zG0, zG1, zG2, zCa, zCi, zCb, zCs, zCf, zCn, zCt, zCm, zCp, decide_true, eq_self])
        |
          refine' HL_q rfl rfl (QV_move (Ev.tmp rfl)) ?_
          simp only [zS0, zS1, zTn, Nat.reduceAdd, Nat.reduceMul, Int.reduceToNat, zG0, zG1, zG2, zCa, zCi, zCb, zCs, zCf, zCn, zCt, zCm, zCp, decide_true, eq_self]
      first
        | (refine HL_skip rfl ?_; simp only [zS0, zS1, zTn, Nat.reduceAdd, Nat.reduceMul, Int.reduceToNat, zG0, zG1, zG2, zCa, zCi, zCb, zCs, zCf, zCn, zCt, zCm, zCp, decide_true, eq_self])
        |
          refine' HL_q rfl rfl (QV_move (Ev.tmp rfl)) ?_
          simp only [zS0, zS1, zTn, Nat.reduceAdd, Nat.reduceMul, Int.reduceToNat, zG0, zG1, zG2, zCa, zCi, zCb, zCs, zCf, zCn, zCt, zCm, zCp, decide_true, eq_self]
      -- operation 17
      refine' HL_call rfl en38 (call_fn (EvL.cons (Ev.tmp rfl) (EvL.cons (Ev.tmp rfl) EvL.nil)).evs) ((same_calls (l := o3) (m := o3) (hl3.sub (by (repeat (first | with_reducible exact List.Sublist.refl _ | with_reducible exact List.nil_sublist _ | with_reducible apply List.Sublist.cons_cons | with_reducible apply List.Sublist.cons)))) (hs' _) hl hl)) ?_
      rintro _ _ ⟨rfl, rfl⟩
      simp only [zS0, zS1, zTn, Nat.reduceAdd, Nat.reduceMul, Int.reduceToNat, zG0, zG1, zG2, zCa, zCi, zCb, zCs, zCf, zCn, zCt, zCm, zCp, decide_true, eq_self]
      first
        | (refine HL_skip rfl ?_; simp only [zS0, zS1, zTn, Nat.reduceAdd, Nat.reduceMul, Int.reduceToNat, zG0, zG1, zG2, zCa, zCi, zCb, zCs, zCf, zCn, zCt, zCm, zCp, decide_true, eq_self])
        |
          refine' HL_q rfl rfl (QV_pick (Ev.tmp rfl) (Ev.tmp rfl) Ev.const) ?_
          simp only [if_true, if_false, Bool.false_eq_true, reduceIte, zS0, zS1, zTn, Nat.reduceAdd, Nat.reduceMul, Int.reduceToNat, zG0, zG1, zG2, zCa, zCi, zCb, zCs, zCf, zCn, zCt, zCm, zCp, decide_true, eq_self]
      refine' HL_q rfl rfl (QV_pick (Ev.tmp rfl) Ev.const (Ev.tmp rfl)) ?_
      simp only [if_true, if_false, Bool.false_eq_true, reduceIte, zS0, zS1, zTn, Nat.reduceAdd, Nat.reduceMul, Int.reduceToNat, zG0, zG1, zG2, zCa, zCi, zCb, zCs, zCf, zCn, zCt, zCm, zCp, decide_true, eq_self]
      refine' HL_q rfl rfl (QV_assign (Ev.tmp rfl)) ?_
      simp only [zS0, zS1, zTn, Nat.reduceAdd, Nat.reduceMul, Int.reduceToNat, zG0, zG1, zG2, zCa, zCi, zCb, zCs, zCf, zCn, zCt, zCm, zCp, decide_true, eq_self]
      refine HL_nil ?_
      refine hN11 _ _ ?_
      try clear hN11 N11
      refine HC_ret ?_
      try simp only [thenK, blockK]
      refine kr _ _ ?_
      refine' Lv_tmp rfl rfl ?post ?le
      case post => exact ⟨rfl, rfl⟩
      case le => (first | with_reducible exact Le.refl | (refine Le.of ?_; (repeat (first | with_reducible exact Sp.refl | with_reducible exact Sp.nil | (apply Sp.pick; focus ((repeat (first | with_reducible exact Rm.head | with_reducible apply Rm.tail)); done)) | with_reducible refine Sp.drop ?_))))
    · rcases hs3 with ⟨_, rfl, rfl⟩ | ⟨h, _⟩
      · skip
        refine HC_seq fun N11 hN11 => ?_
        refine HC_region ?_
        refine' HL_q rfl rfl (QV_move (Ev.tmp rfl)) ?_
        simp only [zS0, zS1, zTn, Nat.reduceAdd, Nat.reduceMul, Int.reduceToNat, zG0, zG1, zG2, zCa, zCi, zCb, zCs, zCf, zCn, zCt, zCm, zCp, Nat.add_zero]
        -- operation 1
        refine' HL_call rfl en45 (call_fn (EvL.cons (Ev.tmp rfl) EvL.nil).evs) ((check_calls (hs' _) hw hl)) ?_
        rintro _ _ ⟨b, rfl, hb, rfl⟩
        obtain rfl : b = false := (by cases b <;> first | rfl | exact absurd (hb.1 rfl) hok)
        simp only [zS0, zS1, zTn, Nat.reduceAdd, Nat.reduceMul, Int.reduceToNat, zG0, zG1, zG2, zCa, zCi, zCb, zCs, zCf, zCn, zCt, zCm, zCp, Nat.add_zero]
        refine' HL_q rfl rfl (QV_un (Ev.tmp rfl) ?hr) ?_
        case hr => intro w; first | (go_simp; done) | (go_simp; rfl)
        simp only [zS0, zS1, zTn, Nat.reduceAdd, Nat.reduceMul, Int.reduceToNat, zG0, zG1, zG2, zCa, zCi, zCb, zCs, zCf, zCn, zCt, zCm, zCp, Nat.add_zero]
        refine' HL_q rfl rfl (QV_move (Ev.tmp rfl)) ?_
        simp only [zS0, zS1, zTn, Nat.reduceAdd, Nat.reduceMul, Int.reduceToNat, zG0, zG1, zG2, zCa, zCi, zCb, zCs, zCf, zCn, zCt, zCm, zCp, Nat.add_zero]
        first
          | (refine HL_skip rfl ?_; simp only [zS0, zS1, zTn, Nat.reduceAdd, Nat.reduceMul, Int.reduceToNat, zG0, zG1, zG2, zCa, zCi, zCb, zCs, zCf, zCn, zCt, zCm, zCp, Nat.add_zero])
          |
            refine' HL_q rfl rfl (QV_move (Ev.tmp rfl)) ?_
            simp only [zS0, zS1, zTn, Nat.reduceAdd, Nat.reduceMul, Int.reduceToNat, zG0, zG1, zG2, zCa, zCi, zCb, zCs, zCf, zCn, zCt, zCm, zCp, Nat.add_zero]
        first
          | (refine HL_skip rfl ?_; simp only [zS0, zS1, zTn, Nat.reduceAdd, Nat.reduceMul, Int.reduceToNat, zG0, zG1, zG2, zCa, zCi, zCb, zCs, zCf, zCn, zCt, zCm, zCp, Nat.add_zero])
          |
            first
              | (refine' HL_q rfl rfl (QV_eql_y (Ev.tmp rfl) Ev.const ?hb) ?_; case hb => omega)
              | (refine' HL_q rfl rfl (QV_eql_n (Ev.tmp rfl) Ev.const ?hb) ?_; case hb => omega)
              | (refine' HL_q rfl rfl (QV_eql (Ev.tmp rfl) Ev.const) ?_)
            simp only [zS0, zS1, zTn, Nat.reduceAdd, Nat.reduceMul, Int.reduceToNat, zG0, zG1, zG2, zCa, zCi, zCb, zCs, zCf, zCn, zCt, zCm, zCp, Nat.add_zero]
        refine' HL_q rfl rfl (QV_pick (Ev.tmp rfl) (Ev.tmp rfl) Ev.const) ?_
        simp only [if_true, if_false, Bool.false_eq_true, reduceIte, zS0, zS1, zTn, Nat.reduceAdd, Nat.reduceMul, Int.reduceToNat, zG0, zG1, zG2, zCa, zCi, zCb, zCs, zCf, zCn, zCt, zCm, zCp, Nat.add_zero]
        refine' HL_q rfl rfl (QV_move (Ev.tmp rfl)) ?_
        simp only [zS0, zS1, zTn, Nat.reduceAdd, Nat.reduceMul, Int.reduceToNat, zG0, zG1, zG2, zCa, zCi, zCb, zCs, zCf, zCn, zCt, zCm, zCp, Nat.add_zero]
        first
          | (refine HL_skip rfl ?_; simp only [zS0, zS1, zTn, Nat.reduceAdd, Nat.reduceMul, Int.reduceToNat, zG0, zG1, zG2, zCa, zCi, zCb, zCs, zCf, zCn, zCt, zCm, zCp, Nat.add_zero])
          |
            refine' HL_q rfl rfl (QV_move (Ev.tmp rfl)) ?_
            simp only [zS0, zS1, zTn, Nat.reduceAdd, Nat.reduceMul, Int.reduceToNat, zG0, zG1, zG2, zCa, zCi, zCb, zCs, zCf, zCn, zCt, zCm, zCp, Nat.add_zero]
        -- operation 9
        refine HL_skip rfl ?_
        simp only [zS0, zS1, zTn, Nat.reduceAdd, Nat.reduceMul, Int.reduceToNat, zG0, zG1, zG2, zCa, zCi, zCb, zCs, zCf, zCn, zCt, zCm, zCp, Nat.add_zero]
        first
          | (refine HL_skip rfl ?_; simp only [zS0, zS1, zTn, Nat.reduceAdd, Nat.reduceMul, Int.reduceToNat, zG0, zG1, zG2, zCa, zCi, zCb, zCs, zCf, zCn, zCt, zCm, zCp, Nat.add_zero])
          |
            refine' HL_q rfl rfl (QV_move (Ev.tmp rfl)) ?_
            simp only [zS0, zS1, zTn, Nat.reduceAdd, Nat.reduceMul, Int.reduceToNat, zG0, zG1, zG2, zCa, zCi, zCb, zCs, zCf, zCn, zCt, zCm, zCp, Nat.add_zero]
        first
          | (refine HL_skip rfl ?_; simp only [zS0, zS1, zTn, Nat.reduceAdd, Nat.reduceMul, Int.reduceToNat, zG0, zG1, zG2, zCa, zCi, zCb, zCs, zCf, zCn, zCt, zCm, zCp, Nat.add_zero])
          |
            refine' HL_q rfl rfl (QV_move (Ev.tmp rfl)) ?_
            simp only [zS0, zS1, zTn, Nat.reduceAdd, Nat.reduceMul, Int.reduceToNat, zG0, zG1, zG2, zCa, zCi, zCb, zCs, zCf, zCn, zCt, zCm, zCp, Nat.add_zero]
        first
          | (refine HL_skip rfl ?_; simp only [zS0, zS1, zTn, Nat.reduceAdd, Nat.reduceMul, Int.reduceToNat, zG0, zG1, zG2, zCa, zCi, zCb, zCs, zCf, zCn, zCt, zCm, zCp, Nat.add_zero])
          |
            first
              | (refine' HL_q rfl rfl (QV_eql_y (Ev.tmp rfl) Ev.const ?hb) ?_; case hb => omega)
              | (refine' HL_q rfl rfl (QV_eql_n (Ev.tmp rfl) Ev.const ?hb) ?_; case hb => omega)
              | (refine' HL_q rfl rfl (QV_eql (Ev.tmp rfl) Ev.const) ?_)
            simp only [zS0, zS1, zTn, Nat.reduceAdd, Nat.reduceMul, Int.reduceToNat, zG0, zG1, zG2, zCa, zCi, zCb, zCs, zCf, zCn, zCt, zCm, zCp, Nat.add_zero]
        first
          | (refine HL_skip rfl ?_; simp only [zS0, zS1, zTn, Nat.reduceAdd, Nat.reduceMul, Int.reduceToNat, zG0, zG1, zG2, zCa, zCi, zCb, zCs, zCf, zCn, zCt, zCm, zCp, Nat.add_zero])
          |
            refine' HL_q rfl rfl (QV_pick (Ev.tmp rfl) (Ev.tmp rfl) Ev.const) ?_
            simp only [if_true, if_false, Bool.false_eq_true, reduceIte, zS0, zS1, zTn, Nat.reduceAdd, Nat.reduceMul, Int.reduceToNat, zG0, zG1, zG2, zCa, zCi, zCb, zCs, zCf, zCn, zCt, zCm, zCp, Nat.add_zero]
        first
          | (refine HL_skip rfl ?_; simp only [zS0, zS1, zTn, Nat.reduceAdd, Nat.reduceMul, Int.reduceToNat, zG0, zG1, zG2, zCa, zCi, zCb, zCs, zCf, zCn, zCt, zCm, zCp, Nat.add_zero])
          |
            refine' HL_q rfl rfl (QV_move (Ev.tmp rfl)) ?_
            simp only [zS0, zS1, zTn, Nat.reduceAdd, Nat.reduceMul, Int.reduceToNat, zG0, zG1, zG2, zCa, zCi, zCb, zCs, zCf, zCn, zCt, zCm, zCp, Nat.add_zero]
        first
          | (refine HL_skip rfl ?_; simp only [zS0, zS1, zTn, Nat.reduceAdd, Nat.reduceMul, Int.reduceToNat, zG0, zG1, zG2, zCa, zCi, zCb, zCs, zCf, zCn, zCt, zCm, zCp, Nat.add_zero])
          |
            refine' HL_q rfl rfl (QV_move (Ev.tmp rfl)) ?_
            simp only [zS0, zS1, zTn, Nat.reduceAdd, Nat.reduceMul, Int.reduceToNat, zG0, zG1, zG2, zCa, zCi, zCb, zCs, zCf, zCn, zCt, zCm, zCp, Nat.add_zero]
        first
          | (refine HL_skip rfl ?_; simp only [zS0, zS1, zTn, Nat.reduceAdd, Nat.reduceMul, Int.reduceToNat, zG0, zG1, zG2, zCa, zCi, zCb, zCs, zCf, zCn, zCt, zCm, zCp, Nat.add_zero])
          |
            refine' HL_q rfl rfl (QV_move (Ev.tmp rfl)) ?_
            simp only [zS0, zS1, zTn, Nat.reduceAdd, Nat.reduceMul, Int.reduceToNat, zG0, zG1, zG2, zCa, zCi, zCb, zCs, zCf, zCn, zCt, zCm, zCp, Nat.add_zero]
        -- operation 17
        refine HL_skip rfl ?_
        simp only [zS0, zS1, zTn, Nat.reduceAdd, Nat.reduceMul, Int.reduceToNat, zG0, zG1, zG2, zCa, zCi, zCb, zCs, zCf, zCn, zCt, zCm, zCp, Nat.add_zero]
        first
          | (refine HL_skip rfl ?_; simp only [zS0, zS1, zTn, Nat.reduceAdd, Nat.reduceMul, Int.reduceToNat, zG0, zG1, zG2, zCa, zCi, zCb, zCs, zCf, zCn, zCt, zCm, zCp, Nat.add_zero])
          |
            refine' HL_q rfl rfl (QV_pick (Ev.tmp rfl) (Ev.tmp rfl) Ev.const) ?_
            simp only [if_true, if_false, Bool.false_eq_true, reduceIte, zS0, zS1, zTn, Nat.reduceAdd, Nat.reduceMul, Int.reduceToNat, zG0, zG1, zG2, zCa, zCi, zCb, zCs, zCf, zCn, zCt, zCm, zCp, Nat.add_zero]
        refine' HL_q rfl rfl (QV_pick (Ev.tmp rfl) Ev.const (Ev.tmp rfl)) ?_
        simp only [if_true, if_false, Bool.false_eq_true, reduceIte, zS0, zS1, zTn, Nat.reduceAdd, Nat.reduceMul, Int.reduceToNat, zG0, zG1, zG2, zCa, zCi, zCb, zCs, zCf, zCn, zCt, zCm, zCp, Nat.add_zero]
        refine' HL_q rfl rfl (QV_assign (Ev.tmp rfl)) ?_
        simp only [zS0, zS1, zTn, Nat.reduceAdd, Nat.reduceMul, Int.reduceToNat, zG0, zG1, zG2, zCa, zCi, zCb, zCs, zCf, zCn, zCt, zCm, zCp, Nat.add_zero]
        refine HL_nil ?_
        refine hN11 _ _ ?_
        try clear hN11 N11
        refine HC_ret ?_
        try simp only [thenK, blockK]
        refine kr _ _ ?_
        refine' Lv_tmp rfl rfl ?post ?le
        case post => exact ⟨rfl, rfl⟩
        case le => (first | with_reducible exact Le.refl | (refine Le.of ?_; (repeat (first | with_reducible exact Sp.refl | with_reducible exact Sp.nil | (apply Sp.pick; focus ((repeat (first | with_reducible exact Rm.head | with_reducible apply Rm.tail)); done)) | with_reducible refine Sp.drop ?_))))
      · exact absurd h.1 hok
end Go.Proofs.Ytcilfoicoambhaa
