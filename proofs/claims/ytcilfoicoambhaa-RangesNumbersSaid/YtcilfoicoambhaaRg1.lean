import Derived.Test.YtcilfoicoambhaaSo7
set_option linter.unusedVariables false
set_option linter.unusedSimpArgs false
set_option maxRecDepth 20000
set_option maxHeartbeats 2000000
namespace Go.Proofs.Ytcilfoicoambhaa
open Go Go.Hw Go.RowKit

variable {w0 : World} {R : List Asn}

/-- A range: from, to. -/
abbrev Rg := Nat × Nat
def rg1 (r : Rg) : List Value := [.int .u64 (r.1 : Nat), .int .u64 (r.2 : Nat)]
theorem rg1_len (r : Rg) : (rg1 r).length = 2 := rfl
theorem rg1_one (r : Rg) : ∀ u ∈ rg1 r, u.oneCell' = true := by
  intro u hu
  simp [rg1] at hu
  rcases hu with rfl | rfl <;> rfl
abbrev rgC (l : List Rg) : List Value := l.flatMap rg1
theorem lget {α : Type} {enc : α → List Value} {sz : Nat} (hsz : ∀ x, (enc x).length = sz) (l : List α) {i : Nat} (hi : i < l.length) : ((l.flatMap enc).drop (i * sz)).take sz = enc l[i] := by
  induction l generalizing i with
  | nil => simp at hi
  | cons x l ih =>
    cases i with
    | zero =>
      rw [List.flatMap_cons, Nat.zero_mul, List.drop_zero]
      have := hsz x
      simp only [List.getElem_cons_zero]
      rw [← this, List.take_left]
    | succ i =>
      rw [List.flatMap_cons, Nat.add_mul, Nat.one_mul]
      have := hsz x
      rw [show i * sz + sz = (enc x).length + i * sz by omega, List.drop_append, List.drop_of_length_le (by omega), List.nil_append]
      simpa using ih (i := i) (by simpa using hi)
theorem llen {α : Type} {enc : α → List Value} {sz : Nat} (hsz : ∀ x, (enc x).length = sz) (l : List α) : (l.flatMap enc).length = l.length * sz := by
  induction l with
  | nil => simp
  | cons x l ih => rw [List.flatMap_cons, List.length_append, ih, hsz, List.length_cons, Nat.add_mul, Nat.one_mul, Nat.add_comm]
theorem lone {α : Type} {enc : α → List Value} (h1 : ∀ x, ∀ u ∈ enc x, u.oneCell' = true) (l : List α) : ∀ u ∈ l.flatMap enc, u.oneCell' = true := by
  intro u hu
  obtain ⟨x, _, hx⟩ := List.mem_flatMap.1 hu
  exact h1 x u hx

/-- The turns of a set, of the first list or the second. -/
def tOf (fl : Bool) (l : List Rg) : List Turn := l.flatMap fun r => [(r.1, fl, true), (r.2 + 1, fl, false)]
theorem tOf_snoc (fl : Bool) (l : List Rg) {i : Nat} (hi : i < l.length) : tOf fl (l.take (i + 1)) = tOf fl (l.take i) ++ [((l[i]).1, fl, true), ((l[i]).2 + 1, fl, false)] := by
  unfold tOf
  rw [List.take_succ_eq_append_getElem hi, List.flatMap_append, List.flatMap_singleton]
theorem tOf_len (fl : Bool) (l : List Rg) : (tOf fl l).length = 2 * l.length := by
  induction l with
  | nil => rfl
  | cons r l ih => simp only [tOf, List.flatMap_cons, List.length_append] at ih ⊢; rw [ih]; simp; omega
def turnsOf (xa xb : List Rg) : List Turn := tOf true xa ++ tOf false xb
def MaxN : Nat := 4611686018427387903
def Bounded (l : List Rg) : Prop := ∀ r ∈ l, r.1 ≤ 4611686018427387903 ∧ r.2 ≤ 4611686018427387903

theorem bs183 (p q r p' q' r' : Value) (w : World) : (Instr.buildSlice 183 2 #[(0, .agg #[p, q, r]), (1, .agg #[p', q', r'])]).run Try.prog w = .ok (.slice (some ⟨w.heap.size, 0, none⟩) 2 2) (w.alloc (.cells #[p, q, r, p', q', r'] 172)) := by
  first | (go_simp; done) | (go_simp; rfl)

theorem turns_iter {l ba bb : Nat} {A B : Option Addr} {ca cb : Nat} {xa xb : List Rg} {R0 : List Asn} (J : List Turn → List Asn → Prop) (hJ0 : J [] R0)
    (hba : pt ba (.cells #[.slice A xa.length ca] 34 (0, 0)) ∈ R0) (hbb : pt bb (.cells #[.slice B xb.length cb] 34 (0, 0)) ∈ R0)
    (hA : Sl w0 R0 2 A xa.length (rgC xa)) (hB : Sl w0 R0 2 B xb.length (rgC xb)) (hla : xa.length ≤ 1000) (hlb : xb.length ≤ 1000) (hva : Bounded xa) (hvb : Bounded xb)
    (hy : ∀ ts, ts.Perm (turnsOf xa xb) → Srt ts → ∀ p t q, ts = p ++ t :: q → ∀ RR, J p RR → ∀ E, YS Try.prog w0 l #[.agg (tc t).toArray] (E ++ RR) fun v R' => v = .bool true ∧ ∃ RR', J (p ++ [t]) RR' ∧ R' = E ++ RR') :
    CH Try.prog w0 108 #[.func (.yield l) #[] #[], .pointer (some ⟨ba, 0, none⟩), .pointer (some ⟨bb, 0, none⟩)] R0 fun v R' => ∃ ts, ts.Perm (turnsOf xa xb) ∧ Srt ts ∧ J ts R' := by
  refine CH_of Try.func108 rfl fun K kn kr kp => ?_
  simp only [Try.ntmps108, List.size_toArray, List.length_cons, List.length_nil, Nat.reduceAdd, Nat.reduceSub, Array.replicate_succ, Array.replicate_zero, List.push_toArray, List.append_toArray, List.nil_append, List.cons_append]
  refine HC_seq fun N1 hN1 => ?_
  refine HC_region ?_
  refine' HL_q rfl rfl (QV_assign Ev.const) ?_
  simp only [zS0, zS1, zTn, Nat.reduceAdd, Nat.reduceMul, Int.reduceToNat, zG0, zG1, zG2, zCa, zCi, zCb, zCs, zCf, zCn, zCt, zCm, zCp]
  refine HL_nil ?_
  refine hN1 _ _ ?_
  try clear hN1 N1
  refine HC_free (A := own 172 3 (.slice none 0 0) 0 []) own_nil_ok own_nil_fp ?_
  refine HC_seq fun N2 hN2 => ?_
  refine HC_seq fun N3 hN3 => ?_
  refine HC_region ?_
  first
    | (refine' HL_q rfl rfl (QV_load1 (Ev.tmp rfl) Try.isAgg34 ?hm ?hv) ?_; (case hm => (repeat (first | exact List.Mem.head _ | assumption | apply List.Mem.tail))); (case hv => (first | rfl | assumption)))
    | (refine' HL_q rfl rfl (QV_loadR (Ev.tmp rfl) ?hp Try.isAgg34 ?hs ?hv) ?_; (case hs => (first | assumption | (refine' Sl.sub (by assumption) ?_; (repeat (first | with_reducible exact List.Sublist.refl _ | with_reducible exact List.nil_sublist _ | with_reducible apply List.Sublist.cons_cons | with_reducible apply List.Sublist.cons))))); (case hv => (first  | rfl | assumption)); (case hp => (first | rfl | omega)))
  simp only [zS0, zS1, zTn, Nat.reduceAdd, Nat.reduceMul, Int.reduceToNat, zG0, zG1, zG2, zCa, zCi, zCb, zCs, zCf, zCn, zCt, zCm, zCp]
  first
    | (refine' HL_q rfl rfl (QV_load1 (Ev.tmp rfl) Try.isAgg34 ?hm ?hv) ?_; (case hm => (repeat (first | exact List.Mem.head _ | assumption | apply List.Mem.tail))); (case hv => (first | rfl | assumption)))
    | (refine' HL_q rfl rfl (QV_loadR (Ev.tmp rfl) ?hp Try.isAgg34 ?hs ?hv) ?_; (case hs => (first | assumption | (refine' Sl.sub (by assumption) ?_; (repeat (first | with_reducible exact List.Sublist.refl _ | with_reducible exact List.nil_sublist _ | with_reducible apply List.Sublist.cons_cons | with_reducible apply List.Sublist.cons))))); (case hv => (first  | rfl | assumption)); (case hp => (first | rfl | omega)))
  simp only [zS0, zS1, zTn, Nat.reduceAdd, Nat.reduceMul, Int.reduceToNat, zG0, zG1, zG2, zCa, zCi, zCb, zCs, zCf, zCn, zCt, zCm, zCp]
  refine' HL_s rfl rfl (SO_buildSlice (EvL.cons (Ev.tmp rfl) (EvL.cons (Ev.tmp rfl) EvL.nil)) ?hr) ?_
  case hr => intro w; first | (go_simp; done) | (go_simp; rfl) | (simp [Instr.buildSlice, run_underlying Try.underlying184, Try.sizeOf34, Try.zeroValue34, Instr.fill, newRow, Result.andThen]; rfl)
  rintro _ _ ⟨g13, rfl, rfl⟩
  simp only [zS0, zS1, zTn, Nat.reduceAdd, Nat.reduceMul, Int.reduceToNat, zG0, zG1, zG2, zCa, zCi, zCb, zCs, zCf, zCn, zCt, zCm, zCp]
  refine' HL_q rfl rfl (QV_len (Ev.tmp rfl) Try.underlying184) ?_
  simp only [zS0, zS1, zTn, Nat.reduceAdd, Nat.reduceMul, Int.reduceToNat, zG0, zG1, zG2, zCa, zCi, zCb, zCs, zCf, zCn, zCt, zCm, zCp]
  refine' HL_q rfl rfl (QV_move Ev.const) ?_
  simp only [zS0, zS1, zTn, Nat.reduceAdd, Nat.reduceMul, Int.reduceToNat, zG0, zG1, zG2, zCa, zCi, zCb, zCs, zCf, zCn, zCt, zCm, zCp]
  refine HL_nil ?_
  refine hN3 _ _ ?_
  try clear hN3 N3
  refine HC_block ?_
  refine HC_loop [4, 15] [false, false, false, false, false, true, true, false, true, false, false, false, false, false, false, false, true, true, true, true, true, true, true, true, true, true, true, true, true, true, true, true, true, true, true, true, true, true, true, true, true, true] (fun gh vs RR => ∃ (i : Nat) (v : Value) (acc : List Turn) (n : Nat) (cs : List Value), vs = [v, (.int .i64 i)] ∧ gh = 2 - i ∧ i ≤ 2 ∧ acc = (if i = 0 then [] else if i = 1 then tOf true xa else turnsOf xa xb) ∧ n = acc.length ∧ cs = acc.flatMap tc ∧ RR = own 172 3 v n cs :: pt g13 (.cells #[.slice A xa.length ca, .slice B xb.length cb] 34 (0, 0)) :: R0) ?start ?round
  case start =>
    simp only [List.map_cons, List.map_nil, List.getD_cons_zero, List.getD_cons_succ]
    refine' ⟨_, _, ?le, 0, _, [], 0, [], rfl, rfl, (Nat.zero_le _), rfl, rfl, rfl, rfl⟩
    case le => (first | with_reducible exact Le.refl | (refine Le.of ?_; (repeat (first | with_reducible exact Sp.refl | with_reducible exact Sp.nil | (apply Sp.pick; focus ((repeat (first | with_reducible exact Rm.head | with_reducible apply Rm.tail)); done)) | with_reducible refine Sp.drop ?_))))
  case round =>
    rintro _ _ _ u ⟨i, v, acc, n, cs, rfl, rfl, hi, hacc, hn, hcs, rfl⟩ NL1 hL1
    simp only [setL, fill, List.set_cons_zero, List.set_cons_succ, Nat.reduceAdd]
    subst hn hcs
    refine HC_seq fun N4 hN4 => ?_
    refine HC_region ?_
    first
      | (refine' HL_q rfl rfl (QV_lss_y (Ev.tmp rfl) (Ev.tmp rfl) ?hb) ?_; case hb => omega)
      | (refine' HL_q rfl rfl (QV_lss_n (Ev.tmp rfl) (Ev.tmp rfl) ?hb) ?_; case hb => omega)
      | (refine' HL_q rfl rfl (QV_lss (Ev.tmp rfl) (Ev.tmp rfl)) ?_)
    simp only [zS0, zS1, zTn, Nat.reduceAdd, Nat.reduceMul, Int.reduceToNat, zG0, zG1, zG2, zCa, zCi, zCb, zCs, zCf, zCn, zCt, zCm, zCp]
    refine HL_nil ?_
    refine hN4 _ _ ?_
    try clear hN4 N4
    refine HC_seq fun N5 hN5 => ?_
    refine HC_cond rfl (fun hc => ?_) (fun hc => ?_)
    · refine HC_skip ?_
      refine hN5 _ _ ?_
      try clear hN5 N5
      have hc' : i < 2 := by simp at hc; omega
      obtain ⟨S, cS, ls, hv, hS, hls, hvs, hnext, haccl⟩ : ∃ S cS, ∃ ls : List Rg, (#[.slice A xa.length ca, .slice B xb.length cb] : Array Value)[0 + i * 1]? = some (.slice S ls.length cS) ∧ Sl w0 R0 2 S ls.length (rgC ls) ∧ ls.length ≤ 1000 ∧ Bounded ls ∧
          acc ++ tOf (i == 0) ls = (if i + 1 = 0 then [] else if i + 1 = 1 then tOf true xa else turnsOf xa xb) ∧ acc.length ≤ 2000 := by
        rcases (show i = 0 ∨ i = 1 by omega) with rfl | rfl
        · exact ⟨A, ca, xa, rfl, hA, hla, hva, by subst hacc; rfl, by subst hacc; simp⟩
        · exact ⟨B, cb, xb, rfl, hB, hlb, hvb, by subst hacc; rfl, by subst hacc; simp [tOf_len]; omega⟩
      obtain ⟨fl, hfl⟩ : ∃ fl, (i == 0) = fl := ⟨_, rfl⟩
      have hfl' : (((i : Nat) : Int) == 0) = fl := by rw [← hfl, Bool.eq_iff_iff]; simp
      rw [hfl] at hnext
      refine HC_seq fun N6 hN6 => ?_
      refine HC_block ?_
      refine HC_seq fun N7 hN7 => ?_
      refine HC_region ?_
      refine' HL_q rfl rfl (QV_move (Ev.tmp rfl)) ?_
      simp only [zS0, zS1, zTn, Nat.reduceAdd, Nat.reduceMul, Int.reduceToNat, zG0, zG1, zG2, zCa, zCi, zCb, zCs, zCf, zCn, zCt, zCm, zCp, hfl']
      refine' HL_q rfl rfl (QV_index (Ev.tmp rfl) (Ev.tmp rfl) (indexAt_slice Try.underlying184 Try.sizeOf34 ?h0 ?h1)) ?_
      case h0 => omega
      case h1 => omega
      simp only [zS0, zS1, zTn, Nat.reduceAdd, Nat.reduceMul, Int.reduceToNat, zG0, zG1, zG2, zCa, zCi, zCb, zCs, zCf, zCn, zCt, zCm, zCp, hfl']
      first
        | (refine' HL_q rfl rfl (QV_load1 (Ev.tmp rfl) Try.isAgg34 ?hm ?hv) ?_; (case hm => (repeat (first | exact List.Mem.head _ | assumption | apply List.Mem.tail))); (case hv => (first | rfl | assumption)))
        | (refine' HL_q rfl rfl (QV_loadR (Ev.tmp rfl) ?hp Try.isAgg34 ?hs ?hv) ?_; (case hs => (first | assumption | (refine' Sl.sub (by assumption) ?_; (repeat (first | with_reducible exact List.Sublist.refl _ | with_reducible exact List.nil_sublist _ | with_reducible apply List.Sublist.cons_cons | with_reducible apply List.Sublist.cons))))); (case hv => (first  | rfl | assumption)); (case hp => (first | rfl | omega)))
      simp only [zS0, zS1, zTn, Nat.reduceAdd, Nat.reduceMul, Int.reduceToNat, zG0, zG1, zG2, zCa, zCi, zCb, zCs, zCf, zCn, zCt, zCm, zCp, hfl']
      refine' HL_q rfl rfl (QV_assign (Ev.tmp rfl)) ?_
      simp only [zS0, zS1, zTn, Nat.reduceAdd, Nat.reduceMul, Int.reduceToNat, zG0, zG1, zG2, zCa, zCi, zCb, zCs, zCf, zCn, zCt, zCm, zCp, hfl']
      refine' HL_q rfl rfl (QV_assign (Ev.tmp rfl)) ?_
      simp only [zS0, zS1, zTn, Nat.reduceAdd, Nat.reduceMul, Int.reduceToNat, zG0, zG1, zG2, zCa, zCi, zCb, zCs, zCf, zCn, zCt, zCm, zCp, hfl']
      refine HL_nil ?_
      refine hN7 _ _ ?_
      try clear hN7 N7
      refine HC_seq fun N8 hN8 => ?_
      refine HC_region ?_
      refine' HL_q rfl rfl (QV_move (Ev.tmp rfl)) ?_
      simp only [zS0, zS1, zTn, Nat.reduceAdd, Nat.reduceMul, Int.reduceToNat, zG0, zG1, zG2, zCa, zCi, zCb, zCs, zCf, zCn, zCt, zCm, zCp, hfl']
      refine' HL_q rfl rfl (QV_len (Ev.tmp rfl) Try.underlying34) ?_
      simp only [zS0, zS1, zTn, Nat.reduceAdd, Nat.reduceMul, Int.reduceToNat, zG0, zG1, zG2, zCa, zCi, zCb, zCs, zCf, zCn, zCt, zCm, zCp, hfl']
      refine' HL_q rfl rfl (QV_move Ev.const) ?_
      simp only [zS0, zS1, zTn, Nat.reduceAdd, Nat.reduceMul, Int.reduceToNat, zG0, zG1, zG2, zCa, zCi, zCb, zCs, zCf, zCn, zCt, zCm, zCp, hfl']
      refine HL_nil ?_
      refine hN8 _ _ ?_
      try clear hN8 N8
      refine HC_block ?_
      refine HC_loop [4, 22] [false, false, false, false, false, false, false, false, true, false, false, false, false, false, false, false, false, false, false, false, false, false, false, true, true, true, true, true, true, true, true, true, true, true, true, true, true, true, true, true, true] (fun gh vs RR => ∃ (k : Nat) (v' : Value) (ac : List Turn) (n : Nat) (cs : List Value), vs = [v', (.int .i64 k)] ∧ gh = ls.length - k ∧ k ≤ ls.length ∧ ac = acc ++ tOf fl (ls.take k) ∧ n = ac.length ∧ cs = ac.flatMap tc ∧ RR = own 172 3 v' n cs :: pt g13 (.cells #[.slice A xa.length ca, .slice B xb.length cb] 34 (0, 0)) :: R0) ?start ?round
      case start =>
        simp only [List.map_cons, List.map_nil, List.getD_cons_zero, List.getD_cons_succ]
        refine' ⟨_, _, ?le, 0, _, acc, _, _, rfl, rfl, (Nat.zero_le _), (by simp [tOf]), rfl, rfl, rfl⟩
        case le => (first | with_reducible exact Le.refl | (refine Le.of ?_; (repeat (first | with_reducible exact Sp.refl | with_reducible exact Sp.nil | (apply Sp.pick; focus ((repeat (first | with_reducible exact Rm.head | with_reducible apply Rm.tail)); done)) | with_reducible refine Sp.drop ?_))))
      case round =>
        rintro _ _ _ u ⟨k, v', ac, n, cs, rfl, rfl, hk, hac, hn, hcs, rfl⟩ NL4 hL4
        simp only [setL, fill, List.set_cons_zero, List.set_cons_succ, Nat.reduceAdd]
        subst hn hcs
        refine HC_seq fun N9 hN9 => ?_
        refine HC_region ?_
        first
          | (refine' HL_q rfl rfl (QV_lss_y (Ev.tmp rfl) (Ev.tmp rfl) ?hb) ?_; case hb => omega)
          | (refine' HL_q rfl rfl (QV_lss_n (Ev.tmp rfl) (Ev.tmp rfl) ?hb) ?_; case hb => omega)
          | (refine' HL_q rfl rfl (QV_lss (Ev.tmp rfl) (Ev.tmp rfl)) ?_)
        simp only [zS0, zS1, zTn, Nat.reduceAdd, Nat.reduceMul, Int.reduceToNat, zG0, zG1, zG2, zCa, zCi, zCb, zCs, zCf, zCn, zCt, zCm, zCp, hfl']
        refine HL_nil ?_
        refine hN9 _ _ ?_
        try clear hN9 N9
        refine HC_seq fun N10 hN10 => ?_
        refine HC_cond rfl (fun hc5 => ?_) (fun hc5 => ?_)
        · refine HC_skip ?_
          refine hN10 _ _ ?_
          try clear hN10 N10
          have hk' : k < ls.length := by simpa using hc5
          obtain ⟨gS, oS, rfl⟩ := hS.addr (by omega)
          have gx := lget rg1_len ls hk'
          have hsn := tOf_snoc fl ls hk'
          obtain ⟨bx1, bx2⟩ := hvs _ (List.getElem_mem hk')
          obtain ⟨⟨x, y⟩, hxy⟩ : ∃ z, ls[k] = z := ⟨_, rfl⟩
          rw [hxy] at gx hsn bx1 bx2
          simp only at hsn bx1 bx2
          have e1 : (y : Int) + 1 = ((y + 1 : Nat) : Int) := by simp
          have hal : ac.length ≤ 4000 := by rw [hac, List.length_append, tOf_len, List.length_take]; omega
          simp only [rg1] at gx
          refine HC_seq fun N11 hN11 => ?_
          refine HC_block ?_
          refine HC_seq fun N12 hN12 => ?_
          refine HC_region ?_
          refine' HL_q rfl rfl (QV_index (Ev.tmp rfl) (Ev.tmp rfl) (indexAt_slice Try.underlying34 Try.sizeOf67 ?h0 ?h1)) ?_
          case h0 => omega
          case h1 => omega
          simp only [zS0, zS1, zTn, Nat.reduceAdd, Nat.reduceMul, Int.reduceToNat, zG0, zG1, zG2, zCa, zCi, zCb, zCs, zCf, zCn, zCt, zCm, zCp, hfl', e1]
          first
            | (refine' HL_q rfl rfl (QV_loadA (Ev.tmp rfl) Try.isAgg67 Try.sizeOf67 ?hm ?hv ?hn) ?_; (case hm => (repeat (first | exact List.Mem.head _ | assumption | apply List.Mem.tail))); (case hv => (simp only [List.toList_toArray, List.take_succ_cons, List.take_zero, List.drop_succ_cons, List.drop_zero, List.take_nil]; rfl)); (case hn => rfl))
            | (refine' HL_q rfl rfl (QV_loadRA (Ev.tmp rfl) ?hp Try.isAgg67 Try.sizeOf67 ?hs ?hv ?hn) ?_; (case hs => (first | assumption | (refine' Sl.sub (by assumption) ?_; (repeat (first | with_reducible exact List.Sublist.refl _ | with_reducible exact List.nil_sublist _ | with_reducible apply List.Sublist.cons_cons | with_reducible apply List.Sublist.cons))))); (case hp => rfl); (case hv => (first | (exact gx) | fail)); (case hn => rfl))
            | (refine' HL_q rfl rfl (QV_loadRA (Ev.tmp rfl) ?hp Try.isAgg67 Try.sizeOf67 ?hs ?hv ?hn) ?_; (case hs => (first | assumption | (refine' Sl.sub (by assumption) ?_; (repeat (first | with_reducible exact List.Sublist.refl _ | with_reducible exact List.nil_sublist _ | with_reducible apply List.Sublist.cons_cons | with_reducible apply List.Sublist.cons))))); (case hv => (first | (exact gx) | rfl)); (case hp => (first | rfl | omega)); (case hn => rfl))
          simp only [zS0, zS1, zTn, Nat.reduceAdd, Nat.reduceMul, Int.reduceToNat, zG0, zG1, zG2, zCa, zCi, zCb, zCs, zCf, zCn, zCt, zCm, zCp, hfl', e1]
          refine' HL_s rfl rfl (SO_alloc Try.zeroValue67 rfl) ?_
          rintro _ _ ⟨g8, rfl, rfl⟩
          simp only [zS0, zS1, zTn, Nat.reduceAdd, Nat.reduceMul, Int.reduceToNat, zG0, zG1, zG2, zCa, zCi, zCb, zCs, zCf, zCn, zCt, zCm, zCp, hfl', e1]
          refine' HL_s rfl rfl (SO_store (Ev.tmp rfl) (Ev.tmp rfl) Try.sizeOf67 ?hvs ?hn ?h1 ?hm ?hfit) ?_
          case hvs => rfl
          case hn => rfl
          case h1 => rfl
          case hm => (repeat (first | with_reducible exact Upd.head | apply Upd.tail))
          case hfit => simp
          rintro _ _ ⟨rfl, rfl⟩
          simp only [spl, zS0, zS1, zLa, zTa, zTz, zDa, zDz, zAn, zAc, List.append_nil, List.length_cons, List.length_nil, Nat.reduceAdd, List.take_nil, List.drop_nil]
          refine HL_nil ?_
          refine hN12 _ _ ?_
          try clear hN12 N12
          refine HC_region ?_
          refine' HL_q rfl rfl (QV_move (Ev.tmp rfl)) ?_
          simp only [zS0, zS1, zTn, Nat.reduceAdd, Nat.reduceMul, Int.reduceToNat, zG0, zG1, zG2, zCa, zCi, zCb, zCs, zCf, zCn, zCt, zCm, zCp, hfl', e1]
          refine' HL_q rfl rfl (QV_field (Ev.tmp rfl) (fld67_0 _ _)) ?_
          simp only [zS0, zS1, zTn, Nat.reduceAdd, Nat.reduceMul, Int.reduceToNat, zG0, zG1, zG2, zCa, zCi, zCb, zCs, zCf, zCn, zCt, zCm, zCp, hfl', e1]
          first
            | (refine' HL_q rfl rfl (QV_load1 (Ev.tmp rfl) Try.isAgg30 ?hm ?hv) ?_; (case hm => (repeat (first | exact List.Mem.head _ | assumption | apply List.Mem.tail))); (case hv => (first | rfl | assumption)))
            | (refine' HL_q rfl rfl (QV_loadR (Ev.tmp rfl) ?hp Try.isAgg30 ?hs ?hv) ?_; (case hs => (first | assumption | (refine' Sl.sub (by assumption) ?_; (repeat (first | with_reducible exact List.Sublist.refl _ | with_reducible exact List.nil_sublist _ | with_reducible apply List.Sublist.cons_cons | with_reducible apply List.Sublist.cons))))); (case hv => (first  | rfl | assumption)); (case hp => (first | rfl | omega)))
          simp only [zS0, zS1, zTn, Nat.reduceAdd, Nat.reduceMul, Int.reduceToNat, zG0, zG1, zG2, zCa, zCi, zCb, zCs, zCf, zCn, zCt, zCm, zCp, hfl', e1]
          refine' HL_q rfl rfl (QV_move (Ev.tmp rfl)) ?_
          simp only [zS0, zS1, zTn, Nat.reduceAdd, Nat.reduceMul, Int.reduceToNat, zG0, zG1, zG2, zCa, zCi, zCb, zCs, zCf, zCn, zCt, zCm, zCp, hfl', e1]
          first
            | (refine' HL_q rfl rfl (QV_eql_y (Ev.tmp rfl) Ev.const ?hb) ?_; case hb => omega)
            | (refine' HL_q rfl rfl (QV_eql_n (Ev.tmp rfl) Ev.const ?hb) ?_; case hb => omega)
            | (refine' HL_q rfl rfl (QV_eql (Ev.tmp rfl) Ev.const) ?_)
          simp only [zS0, zS1, zTn, Nat.reduceAdd, Nat.reduceMul, Int.reduceToNat, zG0, zG1, zG2, zCa, zCi, zCb, zCs, zCf, zCn, zCt, zCm, zCp, hfl', e1]
          refine' HL_q rfl rfl (QV_buildS (EvL.cons (Ev.tmp rfl) (EvL.cons (Ev.tmp rfl) (EvL.cons Ev.const EvL.nil))) Try.zeroValue172 Try.underlying172 (plc172 _ Try.underlying172) rfl) ?_
          simp only [putAll, offOf, List.map_cons, List.map_nil, List.zip_cons_cons, List.zip_nil_left, List.zip_nil_right, List.getElem?_cons_zero, List.getElem?_cons_succ, zS0, zS1, zTn, Nat.reduceAdd, Nat.reduceMul, Int.reduceToNat, zG0, zG1, zG2, zCa, zCi, zCb, zCs, zCf, zCn, zCt, zCm, zCp, hfl', e1]
          refine' HL_q rfl rfl (QV_field (Ev.tmp rfl) (fld67_1 _ _)) ?_
          simp only [zS0, zS1, zTn, Nat.reduceAdd, Nat.reduceMul, Int.reduceToNat, zG0, zG1, zG2, zCa, zCi, zCb, zCs, zCf, zCn, zCt, zCm, zCp, hfl', e1]
          first
            | (refine' HL_q rfl rfl (QV_load1 (Ev.tmp rfl) Try.isAgg30 ?hm ?hv) ?_; (case hm => (repeat (first | exact List.Mem.head _ | assumption | apply List.Mem.tail))); (case hv => (first | rfl | assumption)))
            | (refine' HL_q rfl rfl (QV_loadR (Ev.tmp rfl) ?hp Try.isAgg30 ?hs ?hv) ?_; (case hs => (first | assumption | (refine' Sl.sub (by assumption) ?_; (repeat (first | with_reducible exact List.Sublist.refl _ | with_reducible exact List.nil_sublist _ | with_reducible apply List.Sublist.cons_cons | with_reducible apply List.Sublist.cons))))); (case hv => (first  | rfl | assumption)); (case hp => (first | rfl | omega)))
          simp only [zS0, zS1, zTn, Nat.reduceAdd, Nat.reduceMul, Int.reduceToNat, zG0, zG1, zG2, zCa, zCi, zCb, zCs, zCf, zCn, zCt, zCm, zCp, hfl', e1]
          refine' HL_q rfl rfl (QV_add (Ev.tmp rfl) Ev.const ?hr) ?_
          case hr => first | exact IntWalk.i64_in _ (by omega) | exact IntWalk.u64_in _ (by omega) | exact IntWalk.u8_in _ (by omega) | exact IntWalk.u32_in _ (by omega) | exact IntWalk.i64_quo _ _ (by omega) | exact IntWalk.u64_quo _ _ (by omega) | rfl
          simp only [zS0, zS1, zTn, Nat.reduceAdd, Nat.reduceMul, Int.reduceToNat, zG0, zG1, zG2, zCa, zCi, zCb, zCs, zCf, zCn, zCt, zCm, zCp, hfl', e1]
          refine' HL_q rfl rfl (QV_move (Ev.tmp rfl)) ?_
          simp only [zS0, zS1, zTn, Nat.reduceAdd, Nat.reduceMul, Int.reduceToNat, zG0, zG1, zG2, zCa, zCi, zCb, zCs, zCf, zCn, zCt, zCm, zCp, hfl', e1]
          first
            | (refine' HL_q rfl rfl (QV_eql_y (Ev.tmp rfl) Ev.const ?hb) ?_; case hb => omega)
            | (refine' HL_q rfl rfl (QV_eql_n (Ev.tmp rfl) Ev.const ?hb) ?_; case hb => omega)
            | (refine' HL_q rfl rfl (QV_eql (Ev.tmp rfl) Ev.const) ?_)
          simp only [zS0, zS1, zTn, Nat.reduceAdd, Nat.reduceMul, Int.reduceToNat, zG0, zG1, zG2, zCa, zCi, zCb, zCs, zCf, zCn, zCt, zCm, zCp, hfl', e1]
          refine' HL_q rfl rfl (QV_buildS (EvL.cons (Ev.tmp rfl) (EvL.cons (Ev.tmp rfl) (EvL.cons Ev.const EvL.nil))) Try.zeroValue172 Try.underlying172 (plc172 _ Try.underlying172) rfl) ?_
          simp only [putAll, offOf, List.map_cons, List.map_nil, List.zip_cons_cons, List.zip_nil_left, List.zip_nil_right, List.getElem?_cons_zero, List.getElem?_cons_succ, zS0, zS1, zTn, Nat.reduceAdd, Nat.reduceMul, Int.reduceToNat, zG0, zG1, zG2, zCa, zCi, zCb, zCs, zCf, zCn, zCt, zCm, zCp, hfl', e1]
          -- operation 12
          refine' HL_s rfl rfl (SO_buildSlice (EvL.cons (Ev.tmp rfl) (EvL.cons (Ev.tmp rfl) EvL.nil)) ?hr) ?_
          case hr => exact bs183 _ _ _ _ _ _
          rintro _ _ ⟨g38, rfl, rfl⟩
          simp only [zS0, zS1, zTn, Nat.reduceAdd, Nat.reduceMul, Int.reduceToNat, zG0, zG1, zG2, zCa, zCi, zCb, zCs, zCf, zCn, zCt, zCm, zCp, hfl', e1]
          -- operation 13
          refine' HL_s rfl rfl (SO_append (news := tc (x, fl, true) ++ tc (y + 1, fl, false)) (Ev.tmp rfl) (Ev.tmp rfl) Try.underlying183 inf172 rfl (by decide) ?hsrc ?hrep ?hb ?hb0) ?_
          case hsrc => exact Sl.of_pt (by repeat (first | exact List.Mem.head _ | assumption | apply List.Mem.tail)) rfl (by intro u hu; rcases List.mem_append.1 hu with hu | hu <;> exact tc_one _ u hu)
          case hrep => intro v'; (repeat (first | with_reducible exact Rep.head | apply Rep.tail))
          case hb => omega
          case hb0 => (simp only [maxLen]; omega)
          rintro v39 _ rfl
          simp only [zS0, zS1, zTn, Nat.reduceAdd, Nat.reduceMul, Int.reduceToNat, zG0, zG1, zG2, zCa, zCi, zCb, zCs, zCf, zCn, zCt, zCm, zCp, hfl', e1]
          refine' HL_q rfl rfl (QV_assign (Ev.tmp rfl)) ?_
          simp only [zS0, zS1, zTn, Nat.reduceAdd, Nat.reduceMul, Int.reduceToNat, zG0, zG1, zG2, zCa, zCi, zCb, zCs, zCf, zCn, zCt, zCm, zCp, hfl', e1]
          refine HL_nil ?_
          try simp only [blockK]
          refine hN11 _ _ ?_
          try clear hN11 N11
          refine HC_region ?_
          refine' HL_q rfl rfl (QV_add (Ev.tmp rfl) Ev.const ?hr) ?_
          case hr => first | exact IntWalk.i64_in _ (by omega) | exact IntWalk.u64_in _ (by omega) | exact IntWalk.u8_in _ (by omega) | exact IntWalk.u32_in _ (by omega) | exact IntWalk.i64_quo _ _ (by omega) | exact IntWalk.u64_quo _ _ (by omega) | rfl
          simp only [zS0, zS1, zTn, Nat.reduceAdd, Nat.reduceMul, Int.reduceToNat, zG0, zG1, zG2, zCa, zCi, zCb, zCs, zCf, zCn, zCt, zCm, zCp, hfl', e1]
          refine' HL_q rfl rfl (QV_move (Ev.tmp rfl)) ?_
          simp only [zS0, zS1, zTn, Nat.reduceAdd, Nat.reduceMul, Int.reduceToNat, zG0, zG1, zG2, zCa, zCi, zCb, zCs, zCf, zCn, zCt, zCm, zCp, hfl', e1]
          refine HL_nil ?_
          try simp only [thenK]
          refine' againL hL4 (Gets.cons rfl (Gets.cons rfl Gets.nil)) ?lt ?ag1 ?le ⟨k + 1, v39, ac ++ [(x, fl, true), (y + 1, fl, false)], ac.length + 2, _, rfl, rfl, by omega, ?ac, ?n, ?cs, rfl⟩
          case ag1 => (simp only [setL, List.set_cons_zero, List.set_cons_succ]; exact (Ag.keep (Ag.keep (Ag.keep (Ag.keep (Ag.keep (Ag.keep (Ag.keep (Ag.keep (Ag.any (Ag.keep (Ag.keep (Ag.keep (Ag.keep (Ag.keep (Ag.keep (Ag.keep (Ag.keep (Ag.keep (Ag.keep (Ag.keep (Ag.keep (Ag.keep (Ag.keep (Ag.any (Ag.any (Ag.any (Ag.any (Ag.any (Ag.any (Ag.any (Ag.any (Ag.any (Ag.any (Ag.any (Ag.any (Ag.any (Ag.any (Ag.any (Ag.any (Ag.any (Ag.any Ag.nil))))))))))))))))))))))))))))))))))))))))))
          case le => (first | with_reducible exact Le.refl | (refine Le.of ?_; (repeat (first | with_reducible exact Sp.refl | with_reducible exact Sp.nil | (apply Sp.pick; focus ((repeat (first | with_reducible exact Rm.head | with_reducible apply Rm.tail)); done)) | with_reducible refine Sp.drop ?_))))
          case lt => omega
          case ac => rw [hsn, hac, List.append_assoc]
          case n => simp
          case cs => simp [List.flatMap_append]
        · refine HC_exit ?_
          simp only [thenK, blockK, reduceIte]
          have hk' : k = ls.length := by simp at hc5; omega
          subst hk'
          rw [List.take_length] at hac
          rw [← hac] at hnext
          try simp only [blockK]
          refine hN6 _ _ ?_
          try clear hN6 N6
          refine HC_region ?_
          refine' HL_q rfl rfl (QV_add (Ev.tmp rfl) Ev.const ?hr) ?_
          case hr => first | exact IntWalk.i64_in _ (by omega) | exact IntWalk.u64_in _ (by omega) | exact IntWalk.u8_in _ (by omega) | exact IntWalk.u32_in _ (by omega) | exact IntWalk.i64_quo _ _ (by omega) | exact IntWalk.u64_quo _ _ (by omega) | rfl
          simp only [zS0, zS1, zTn, Nat.reduceAdd, Nat.reduceMul, Int.reduceToNat, zG0, zG1, zG2, zCa, zCi, zCb, zCs, zCf, zCn, zCt, zCm, zCp, hfl']
          refine' HL_q rfl rfl (QV_move (Ev.tmp rfl)) ?_
          simp only [zS0, zS1, zTn, Nat.reduceAdd, Nat.reduceMul, Int.reduceToNat, zG0, zG1, zG2, zCa, zCi, zCb, zCs, zCf, zCn, zCt, zCm, zCp, hfl']
          refine HL_nil ?_
          try simp only [thenK]
          refine' againL hL1 (Gets.cons rfl (Gets.cons rfl Gets.nil)) ?lt ?ag2 ?le ⟨i + 1, _, ac, _, _, rfl, rfl, by omega, hnext, rfl, rfl, rfl⟩
          case ag2 => (simp only [setL, List.set_cons_zero, List.set_cons_succ]; exact (Ag.keep (Ag.keep (Ag.keep (Ag.keep (Ag.keep (Ag.any (Ag.any (Ag.keep (Ag.any (Ag.keep (Ag.keep (Ag.keep (Ag.keep (Ag.keep (Ag.keep (Ag.keep (Ag.any (Ag.any (Ag.any (Ag.any (Ag.any (Ag.any (Ag.any (Ag.any (Ag.any (Ag.any (Ag.any (Ag.any (Ag.any (Ag.any (Ag.any (Ag.any (Ag.any (Ag.any (Ag.any (Ag.any (Ag.any (Ag.any (Ag.any (Ag.any (Ag.any (Ag.any Ag.nil)))))))))))))))))))))))))))))))))))))))))))
          case le => (first | with_reducible exact Le.refl | (refine Le.of ?_; (repeat (first | with_reducible exact Sp.refl | with_reducible exact Sp.nil | (apply Sp.pick; focus ((repeat (first | with_reducible exact Rm.head | with_reducible apply Rm.tail)); done)) | with_reducible refine Sp.drop ?_))))
          case lt => omega
    · refine HC_exit ?_
      simp only [thenK, blockK, reduceIte]
      have hc' : i = 2 := by simp at hc; omega
      subst hc'
      have hacc' : acc = turnsOf xa xb := by simpa using hacc
      have hal : acc.length ≤ 4000 := by rw [hacc', turnsOf, List.length_append, tOf_len, tOf_len]; omega
      clear hacc
      refine hN2 _ _ ?_
      try clear hN2 N2
      refine HC_fact (fun w hw => own_shape hw (List.mem_cons_self ..)) ?_
      rintro ⟨A', c', rfl, hnc, hcm, haddr⟩
      refine HC_seq fun N13 hN13 => ?_
      refine HC_region ?_
      refine' HL_q rfl rfl (QV_move (Ev.tmp rfl)) ?_
      simp only [zS0, zS1, zTn, Nat.reduceAdd, Nat.reduceMul, Int.reduceToNat, zG0, zG1, zG2, zCa, zCi, zCb, zCs, zCf, zCn, zCt, zCm, zCp, List.nil_append]
      -- operation 1
      refine' HL_call rfl en109 (call_fn (EvL.cons (Ev.tmp rfl) (EvL.cons Ev.func EvL.nil)).evs) ((sortStable_calls (by omega) haddr)) ?_
      rintro _ _ ⟨ts, hperm, hsrt, rfl⟩
      simp only [zS0, zS1, zTn, Nat.reduceAdd, Nat.reduceMul, Int.reduceToNat, zG0, zG1, zG2, zCa, zCi, zCb, zCs, zCf, zCn, zCt, zCm, zCp, List.nil_append]
      refine HL_nil ?_
      refine hN13 _ _ ?_
      try clear hN13 N13
      have hlen := hperm.length_eq
      rw [hacc'] at hperm
      refine HC_seq fun N14 hN14 => ?_
      refine HC_region ?_
      refine' HL_q rfl rfl (QV_move (Ev.tmp rfl)) ?_
      simp only [zS0, zS1, zTn, Nat.reduceAdd, Nat.reduceMul, Int.reduceToNat, zG0, zG1, zG2, zCa, zCi, zCb, zCs, zCf, zCn, zCt, zCm, zCp, List.nil_append]
      refine' HL_q rfl rfl (QV_len (Ev.tmp rfl) Try.underlying183) ?_
      simp only [zS0, zS1, zTn, Nat.reduceAdd, Nat.reduceMul, Int.reduceToNat, zG0, zG1, zG2, zCa, zCi, zCb, zCs, zCf, zCn, zCt, zCm, zCp, List.nil_append]
      refine' HL_q rfl rfl (QV_move Ev.const) ?_
      simp only [zS0, zS1, zTn, Nat.reduceAdd, Nat.reduceMul, Int.reduceToNat, zG0, zG1, zG2, zCa, zCi, zCb, zCs, zCf, zCn, zCt, zCm, zCp, List.nil_append]
      refine HL_nil ?_
      refine hN14 _ _ ?_
      try clear hN14 N14
      refine HC_block ?_
      refine HC_loop [46] [false, false, false, false, false, false, false, false, false, false, true, false, false, false, false, false, false, false, false, false, false, false, false, false, false, false, false, false, false, false, false, false, false, false, false, false, false, false, false, false, false, false, false, false, false, false, false, true, true, true, true, true, true, true, true] (fun gh vs RR => ∃ (k : Nat) (RRk : List Asn), vs = [(.int .i64 k)] ∧ gh = ts.length - k ∧ k ≤ ts.length ∧ J (ts.take k) RRk ∧ RR = own 172 3 (.slice A' acc.length c') acc.length (ts.flatMap tc) :: RRk) ?start ?round
      case start =>
        simp only [List.map_cons, List.map_nil, List.getD_cons_zero, List.getD_cons_succ]
        refine' ⟨_, _, ?le, 0, R0, rfl, rfl, (Nat.zero_le _), hJ0, rfl⟩
        case le => (first | with_reducible exact Le.refl | (refine Le.of ?_; (repeat (first | with_reducible exact Sp.refl | with_reducible exact Sp.nil | (apply Sp.pick; focus ((repeat (first | with_reducible exact Rm.head | with_reducible apply Rm.tail)); done)) | with_reducible refine Sp.drop ?_))))
      case round =>
        rintro _ _ _ u ⟨k, RRk, rfl, rfl, hk, hJ, rfl⟩ NL11 hL11
        simp only [setL, fill, List.set_cons_zero, List.set_cons_succ, Nat.reduceAdd]
        refine HC_seq fun N15 hN15 => ?_
        refine HC_region ?_
        first
          | (refine' HL_q rfl rfl (QV_lss_y (Ev.tmp rfl) (Ev.tmp rfl) ?hb) ?_; case hb => omega)
          | (refine' HL_q rfl rfl (QV_lss_n (Ev.tmp rfl) (Ev.tmp rfl) ?hb) ?_; case hb => omega)
          | (refine' HL_q rfl rfl (QV_lss (Ev.tmp rfl) (Ev.tmp rfl)) ?_)
        simp only [zS0, zS1, zTn, Nat.reduceAdd, Nat.reduceMul, Int.reduceToNat, zG0, zG1, zG2, zCa, zCi, zCb, zCs, zCf, zCn, zCt, zCm, zCp, List.nil_append]
        refine HL_nil ?_
        refine hN15 _ _ ?_
        try clear hN15 N15
        refine HC_seq fun N16 hN16 => ?_
        refine HC_cond rfl (fun hc12 => ?_) (fun hc12 => ?_)
        · refine HC_skip ?_
          refine hN16 _ _ ?_
          try clear hN16 N16
          have hk' : k < ts.length := by simp at hc12; omega
          obtain ⟨g, rfl⟩ := haddr (by omega)
          have hsl : Sl w0 [own 172 3 (.slice (some ⟨g, 0, none⟩) acc.length c') acc.length (ts.flatMap tc)] 3 (some ⟨g, 0, none⟩) acc.length (ts.flatMap tc) := Sl.of_own (List.mem_singleton_self _) (by rw [llen tc_len, hlen]) (lone tc_one ts) (fun _ => ⟨g, rfl⟩)
          have gx := lget tc_len ts hk'
          have hsplit : ts = ts.take k ++ ts[k] :: ts.drop (k + 1) := by rw [← List.drop_eq_getElem_cons hk', List.take_append_drop]
          have htk : ts.take (k + 1) = ts.take k ++ [ts[k]] := List.take_succ_eq_append_getElem hk'
          have hyk := hy ts hperm hsrt (ts.take k) ts[k] (ts.drop (k + 1)) hsplit RRk hJ
          rw [← htk] at hyk
          obtain ⟨⟨x, b1, b2⟩, hx⟩ : ∃ z, ts[k] = z := ⟨_, rfl⟩
          rw [hx] at gx hyk
          simp only [tc] at gx hyk
          refine HC_seq fun N17 hN17 => ?_
          refine HC_block ?_
          refine HC_seq fun N18 hN18 => ?_
          refine HC_region ?_
          refine' HL_q rfl rfl (QV_index (Ev.tmp rfl) (Ev.tmp rfl) (indexAt_slice Try.underlying183 Try.sizeOf172 ?h0 ?h1)) ?_
          case h0 => omega
          case h1 => omega
          simp only [zS0, zS1, zTn, Nat.reduceAdd, Nat.reduceMul, Int.reduceToNat, zG0, zG1, zG2, zCa, zCi, zCb, zCs, zCf, zCn, zCt, zCm, zCp, List.nil_append]
          first
            | (refine' HL_q rfl rfl (QV_loadA (Ev.tmp rfl) Try.isAgg172 Try.sizeOf172 ?hm ?hv ?hn) ?_; (case hm => (repeat (first | exact List.Mem.head _ | assumption | apply List.Mem.tail))); (case hv => (simp only [List.toList_toArray, List.take_succ_cons, List.take_zero, List.drop_succ_cons, List.drop_zero, List.take_nil]; rfl)); (case hn => rfl))
            | (refine' HL_q rfl rfl (QV_loadRA (Ev.tmp rfl) ?hp Try.isAgg172 Try.sizeOf172 ?hs ?hv ?hn) ?_; (case hs => (first | assumption | (refine' Sl.sub (by assumption) ?_; (repeat (first | with_reducible exact List.Sublist.refl _ | with_reducible exact List.nil_sublist _ | with_reducible apply List.Sublist.cons_cons | with_reducible apply List.Sublist.cons))))); (case hp => rfl); (case hv => (first | (exact gx) | fail)); (case hn => rfl))
            | (refine' HL_q rfl rfl (QV_loadRA (Ev.tmp rfl) ?hp Try.isAgg172 Try.sizeOf172 ?hs ?hv ?hn) ?_; (case hs => (first | assumption | (refine' Sl.sub (by assumption) ?_; (repeat (first | with_reducible exact List.Sublist.refl _ | with_reducible exact List.nil_sublist _ | with_reducible apply List.Sublist.cons_cons | with_reducible apply List.Sublist.cons))))); (case hv => (first | (exact gx) | rfl)); (case hp => (first | rfl | omega)); (case hn => rfl))
          simp only [zS0, zS1, zTn, Nat.reduceAdd, Nat.reduceMul, Int.reduceToNat, zG0, zG1, zG2, zCa, zCi, zCb, zCs, zCf, zCn, zCt, zCm, zCp, List.nil_append]
          refine' HL_s rfl rfl (SO_alloc Try.zeroValue172 rfl) ?_
          rintro _ _ ⟨g10, rfl, rfl⟩
          simp only [zS0, zS1, zTn, Nat.reduceAdd, Nat.reduceMul, Int.reduceToNat, zG0, zG1, zG2, zCa, zCi, zCb, zCs, zCf, zCn, zCt, zCm, zCp, List.nil_append]
          refine' HL_s rfl rfl (SO_store (Ev.tmp rfl) (Ev.tmp rfl) Try.sizeOf172 ?hvs ?hn ?h1 ?hm ?hfit) ?_
          case hvs => rfl
          case hn => rfl
          case h1 => rfl
          case hm => (repeat (first | with_reducible exact Upd.head | apply Upd.tail))
          case hfit => simp
          rintro _ _ ⟨rfl, rfl⟩
          simp only [spl, zS0, zS1, zLa, zTa, zTz, zDa, zDz, zAn, zAc, List.append_nil, List.length_cons, List.length_nil, Nat.reduceAdd, List.take_nil, List.drop_nil]
          refine HL_nil ?_
          refine hN18 _ _ ?_
          try clear hN18 N18
          refine HC_seq fun N19 hN19 => ?_
          refine HC_region ?_
          refine' HL_q rfl rfl (QV_move (Ev.tmp rfl)) ?_
          simp only [zS0, zS1, zTn, Nat.reduceAdd, Nat.reduceMul, Int.reduceToNat, zG0, zG1, zG2, zCa, zCi, zCb, zCs, zCf, zCn, zCt, zCm, zCp, List.nil_append]
          first
            | (refine' HL_q rfl rfl (QV_loadA (Ev.tmp rfl) Try.isAgg172 Try.sizeOf172 ?hm ?hv ?hn) ?_; (case hm => (repeat (first | exact List.Mem.head _ | assumption | apply List.Mem.tail))); (case hv => (simp only [List.toList_toArray, List.take_succ_cons, List.take_zero, List.drop_succ_cons, List.drop_zero, List.take_nil]; rfl)); (case hn => rfl))
            | (refine' HL_q rfl rfl (QV_loadRA (Ev.tmp rfl) ?hp Try.isAgg172 Try.sizeOf172 ?hs ?hv ?hn) ?_; (case hs => (first | assumption | (refine' Sl.sub (by assumption) ?_; (repeat (first | with_reducible exact List.Sublist.refl _ | with_reducible exact List.nil_sublist _ | with_reducible apply List.Sublist.cons_cons | with_reducible apply List.Sublist.cons))))); (case hp => rfl); (case hv => (first | (exact gx) | fail)); (case hn => rfl))
            | (refine' HL_q rfl rfl (QV_loadRA (Ev.tmp rfl) ?hp Try.isAgg172 Try.sizeOf172 ?hs ?hv ?hn) ?_; (case hs => (first | assumption | (refine' Sl.sub (by assumption) ?_; (repeat (first | with_reducible exact List.Sublist.refl _ | with_reducible exact List.nil_sublist _ | with_reducible apply List.Sublist.cons_cons | with_reducible apply List.Sublist.cons))))); (case hv => (first | (exact gx) | rfl)); (case hp => (first | rfl | omega)); (case hn => rfl))
          simp only [zS0, zS1, zTn, Nat.reduceAdd, Nat.reduceMul, Int.reduceToNat, zG0, zG1, zG2, zCa, zCi, zCb, zCs, zCf, zCn, zCt, zCm, zCp, List.nil_append]
          -- operation 2
          refine' HL_yield rfl (Ev.tmp rfl) (EvL.cons (Ev.tmp rfl) EvL.nil).evs (hyk [_, _]) ?_
          rintro _ _ ⟨rfl, RR', hJ', rfl⟩
          simp only [zS0, zS1, zTn, Nat.reduceAdd, Nat.reduceMul, Int.reduceToNat, zG0, zG1, zG2, zCa, zCi, zCb, zCs, zCf, zCn, zCt, zCm, zCp, List.nil_append]
          refine' HL_q rfl rfl (QV_un (Ev.tmp rfl) ?hr) ?_
          case hr => intro w; first | (go_simp; done) | (go_simp; rfl)
          simp only [zS0, zS1, zTn, Nat.reduceAdd, Nat.reduceMul, Int.reduceToNat, zG0, zG1, zG2, zCa, zCi, zCb, zCs, zCf, zCn, zCt, zCm, zCp, List.nil_append]
          refine HL_nil ?_
          refine hN19 _ _ ?_
          try clear hN19 N19
          simp only [List.cons_append]
          refine HC_false rfl ?_
          refine HC_skip ?_
          try simp only [blockK]
          refine hN17 _ _ ?_
          try clear hN17 N17
          refine HC_region ?_
          refine' HL_q rfl rfl (QV_add (Ev.tmp rfl) Ev.const ?hr) ?_
          case hr => first | exact IntWalk.i64_in _ (by omega) | exact IntWalk.u64_in _ (by omega) | exact IntWalk.u8_in _ (by omega) | exact IntWalk.u32_in _ (by omega) | exact IntWalk.i64_quo _ _ (by omega) | exact IntWalk.u64_quo _ _ (by omega) | rfl
          simp only [zS0, zS1, zTn, Nat.reduceAdd, Nat.reduceMul, Int.reduceToNat, zG0, zG1, zG2, zCa, zCi, zCb, zCs, zCf, zCn, zCt, zCm, zCp, List.nil_append]
          refine' HL_q rfl rfl (QV_move (Ev.tmp rfl)) ?_
          simp only [zS0, zS1, zTn, Nat.reduceAdd, Nat.reduceMul, Int.reduceToNat, zG0, zG1, zG2, zCa, zCi, zCb, zCs, zCf, zCn, zCt, zCm, zCp, List.nil_append]
          refine HL_nil ?_
          try simp only [thenK]
          refine' againL hL11 (Gets.cons rfl Gets.nil) ?lt ?ag3 ?le ⟨k + 1, RR', rfl, rfl, by omega, hJ', rfl⟩
          case ag3 => (simp only [setL, List.set_cons_zero, List.set_cons_succ]; exact (Ag.keep (Ag.keep (Ag.keep (Ag.keep (Ag.keep (Ag.keep (Ag.keep (Ag.keep (Ag.keep (Ag.keep (Ag.any (Ag.keep (Ag.keep (Ag.keep (Ag.keep (Ag.keep (Ag.keep (Ag.keep (Ag.keep (Ag.keep (Ag.keep (Ag.keep (Ag.keep (Ag.keep (Ag.keep (Ag.keep (Ag.keep (Ag.keep (Ag.keep (Ag.keep (Ag.keep (Ag.keep (Ag.keep (Ag.keep (Ag.keep (Ag.keep (Ag.keep (Ag.keep (Ag.keep (Ag.keep (Ag.keep (Ag.keep (Ag.keep (Ag.keep (Ag.keep (Ag.keep (Ag.keep (Ag.any (Ag.any (Ag.any (Ag.any (Ag.any (Ag.any (Ag.any (Ag.any Ag.nil))))))))))))))))))))))))))))))))))))))))))))))))))))))))
          case le => (first | with_reducible exact Le.refl | (refine Le.of ?_; (repeat (first | with_reducible exact Sp.refl | with_reducible exact Sp.nil | (apply Sp.pick; focus ((repeat (first | with_reducible exact Rm.head | with_reducible apply Rm.tail)); done)) | with_reducible refine Sp.drop ?_))))
          case lt => omega
        · refine HC_exit ?_
          simp only [thenK, blockK, reduceIte]
          have hk' : k = ts.length := by simp at hc12; omega
          subst hk'
          rw [List.take_length] at hJ
          try simp only [thenK, blockK, reduceIte]
          refine kn _ _ ?_
          refine' Lv_none rfl ?post ?le
          case post => exact ⟨ts, hperm, hsrt, hJ⟩
          case le => (first | with_reducible exact Le.refl | (refine Le.of ?_; (repeat (first | with_reducible exact Sp.refl | with_reducible exact Sp.nil | (apply Sp.pick; focus ((repeat (first | with_reducible exact Rm.head | with_reducible apply Rm.tail)); done)) | with_reducible refine Sp.drop ?_))))
end Go.Proofs.Ytcilfoicoambhaa
