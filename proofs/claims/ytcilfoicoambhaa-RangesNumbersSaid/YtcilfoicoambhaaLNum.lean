import Derived.Test.YtcilfoicoambhaaLBoth
set_option linter.unusedVariables false
set_option linter.unusedSimpArgs false
set_option maxRecDepth 20000
set_option maxHeartbeats 4000000
namespace Go.Proofs.Ytcilfoicoambhaa
open Go Go.Hw Go.RowKit

variable {w0 : World} {R : List Asn}

theorem canon_len : ∀ {la : List Rg} {S : List Nat}, Canon la → (∀ r ∈ la, r.1 ∈ S) → la.length ≤ S.length
  | [], _, _, _ => Nat.zero_le _
  | r :: la, S, h, hS => by
    have h1 := (List.pairwise_cons.1 h.gaps).1
    have h0 := h.ok r (List.mem_cons_self ..)
    have ih := canon_len (S := S.erase r.1) h.tail (fun x hx => (List.mem_erase_of_ne (by have := h1 x hx; omega)).2 (hS x (List.mem_cons_of_mem _ hx)))
    have hm := hS r (List.mem_cons_self ..)
    have hl := List.length_erase_of_mem hm
    have hp : 0 < S.length := List.length_pos_of_mem hm
    rw [List.length_cons]
    omega
/-- The numbers of some bytes. -/
abbrev nums (l : List UInt8) : List Nat := l.map (·.toNat)
theorem mem_one (n k : Nat) : memR n [(k, k)] = (n == k) := by
  rw [memR_one, Bool.eq_iff_iff]; simp; omega
theorem nums_snoc (l : List UInt8) (x : UInt8) (n : Nat) : (nums (l ++ [x])).contains n = ((nums l).contains n || (n == x.toNat)) := by
  rw [Bool.eq_iff_iff]; simp [nums]
/-- A number is added to a set of few: there is room. -/
theorem add_num {la o : List Rg} {e : Nat} {S : List UInt8} {x : UInt8} (hS : SetOk la) (hm : ∀ n, memR n la = (nums S).contains n) (hl : S.length ≤ 60) (h : OpSpec (fun a b => a || b) (SetOk la ∧ mayR (x.toNat, x.toNat) = true) la [(x.toNat, x.toNat)] o e) :
    e = 0 ∧ SetOk o ∧ ∀ n, memR n o = (nums (S ++ [x])).contains n := by
  have hx : x.toNat < 256 := UInt8.toNat_lt _
  have hok : SetOk la ∧ mayR (x.toNat, x.toNat) = true := ⟨hS, (mayR_iff _).2 ⟨Nat.le_refl _, by simp only; omega⟩⟩
  rcases h with ⟨h, _⟩ | ⟨_, o', h1, h2, h3⟩
  · exact absurd hok h
  · have hm' : ∀ n, memR n o' = (nums (S ++ [x])).contains n := fun n => by rw [h2, hm, mem_one, nums_snoc]
    have hlen : o'.length ≤ (nums (S ++ [x])).length := canon_len h1 fun r hr => by
      have := hm' r.1
      rw [memR_iff.2 ⟨r, hr, Nat.le_refl _, (h1.ok r hr).1⟩] at this
      simpa using this.symm
    have h61 : o'.length ≤ 64 := by simp [nums] at hlen; omega
    rcases h3 with ⟨h, _⟩ | ⟨_, h, rfl⟩
    · omega
    · exact ⟨h, ⟨h1, h61⟩, hm'⟩

/-- 256 flags. -/
def bT (th : Nat → Bool) : Array Value := ((List.range 256).map fun n => Value.bool (th n)).toArray
theorem bT_size (th : Nat → Bool) : (bT th).size = 256 := by simp [bT]
theorem bT_get (th : Nat → Bool) {k : Nat} (hk : k < 256) : (bT th)[0 + k * 1]? = some (.bool (th k)) := by
  simp [bT, hk]
theorem bT_set (th : Nat → Bool) {k : Nat} (hk : k < 256) : spl (bT th) (0 + k * 1) [.bool true] = bT (fun n => th n || (n == k)) := by
  have e : (bT th).toList = (List.range 256).map fun n => Value.bool (th n) := by simp [bT]
  unfold spl
  rw [e]
  unfold bT
  congr 1
  apply List.ext_getElem?
  intro i
  rw [Nat.zero_add, Nat.mul_one]
  rcases Nat.lt_trichotomy i k with h | h | h
  · rw [List.append_assoc, List.getElem?_append_left (by simp; omega)]
    simp [show i < 256 by omega, h, show ¬ i = k by omega]
  · subst h
    rw [List.append_assoc, List.getElem?_append_right (by simp; omega)]
    simp [hk, Nat.min_eq_left (show i ≤ 256 by omega)]
  · rw [List.getElem?_append_right (by simp; omega)]
    simp only [List.length_append, List.length_take, List.length_map, List.length_range, List.length_singleton, Nat.min_eq_left (show k ≤ 256 by omega), List.getElem?_drop, List.getElem?_map, List.getElem?_range]
    by_cases h2 : i < 256
    · rw [List.getElem?_range (by omega), List.getElem?_range h2]
      simp [show k + 1 + (i - (k + 1)) = i by omega, show ¬ i = k by omega]
    · rw [List.getElem?_eq_none (by simp; omega), List.getElem?_eq_none (by simp; omega)]
      rfl

theorem u8_lt (l : List UInt8) (i : Nat) (h : i < l.length) : (u8C l)[i]? = some (.int .u8 ((l[i]).toNat : Nat)) := by simp [u8C, h]

theorem rangesNumbers {A0 : Option Addr} {c : Nat} {l : List UInt8} (hs : Sl w0 [] 1 A0 l.length (u8C l)) :
    CH Try.prog w0 13 #[.slice A0 l.length c] [] fun v R' => v = .bool true ∧ R' = [] := by
  have hs' : ∀ R, Sl w0 R 1 A0 l.length (u8C l) := fun R => hs.sub (List.nil_sublist _)
  refine CH_of Try.func13 rfl fun K kn kr kp => ?_
  simp only [Try.ntmps13, List.size_toArray, List.length_cons, List.length_nil, Nat.reduceAdd, Nat.reduceSub, Array.replicate_succ, Array.replicate_zero, List.push_toArray, List.append_toArray, List.nil_append, List.cons_append]
  refine HC_seq fun N1 hN1 => ?_
  refine HC_region ?_
  refine' HL_q rfl rfl (QV_assign Ev.const) ?_
  simp only [zS0, zS1, zTn, Nat.reduceAdd, Nat.reduceMul, Int.reduceToNat, zG0, zG1, zG2, zCa, zCi, zCb, zCs, zCf, zCn, zCt, zCm, zCp]
  refine HL_nil ?_
  refine hN1 _ _ ?_
  try clear hN1 N1
  rcases Nat.lt_or_ge 60 l.length with h60 | h60
  · skip
    refine HC_seq fun N2 hN2 => ?_
    refine HC_seq fun N3 hN3 => ?_
    refine HC_region ?_
    -- operation 0
    refine' HL_call rfl en37 (call_fn EvL.nil.evs) (alive8) ?_
    rintro _ _ ⟨rfl, rfl⟩
    simp only [zS0, zS1, zTn, Nat.reduceAdd, Nat.reduceMul, Int.reduceToNat, zG0, zG1, zG2, zCa, zCi, zCb, zCs, zCf, zCn, zCt, zCm, zCp]
    refine' HL_q rfl rfl (QV_un (Ev.tmp rfl) ?hr) ?_
    case hr => intro w; first | (go_simp; done) | (go_simp; rfl)
    simp only [zS0, zS1, zTn, Nat.reduceAdd, Nat.reduceMul, Int.reduceToNat, zG0, zG1, zG2, zCa, zCi, zCb, zCs, zCf, zCn, zCt, zCm, zCp]
    refine' HL_q rfl rfl (QV_move (Ev.tmp rfl)) ?_
    simp only [zS0, zS1, zTn, Nat.reduceAdd, Nat.reduceMul, Int.reduceToNat, zG0, zG1, zG2, zCa, zCi, zCb, zCs, zCf, zCn, zCt, zCm, zCp]
    first
      | (refine HL_skip rfl ?_; simp only [zS0, zS1, zTn, Nat.reduceAdd, Nat.reduceMul, Int.reduceToNat, zG0, zG1, zG2, zCa, zCi, zCb, zCs, zCf, zCn, zCt, zCm, zCp])
      |
        refine' HL_q rfl rfl (QV_move (Ev.tmp rfl)) ?_
        simp only [zS0, zS1, zTn, Nat.reduceAdd, Nat.reduceMul, Int.reduceToNat, zG0, zG1, zG2, zCa, zCi, zCb, zCs, zCf, zCn, zCt, zCm, zCp]
    first
      | (refine HL_skip rfl ?_; simp only [zS0, zS1, zTn, Nat.reduceAdd, Nat.reduceMul, Int.reduceToNat, zG0, zG1, zG2, zCa, zCi, zCb, zCs, zCf, zCn, zCt, zCm, zCp])
      |
        refine' HL_q rfl rfl (QV_len (Ev.tmp rfl) Try.underlying22) ?_
        simp only [zS0, zS1, zTn, Nat.reduceAdd, Nat.reduceMul, Int.reduceToNat, zG0, zG1, zG2, zCa, zCi, zCb, zCs, zCf, zCn, zCt, zCm, zCp]
    first
      | (refine HL_skip rfl ?_; simp only [zS0, zS1, zTn, Nat.reduceAdd, Nat.reduceMul, Int.reduceToNat, zG0, zG1, zG2, zCa, zCi, zCb, zCs, zCf, zCn, zCt, zCm, zCp])
      |
        first
          | (refine' HL_q rfl rfl (QV_gtr_y (Ev.tmp rfl) Ev.const ?hb) ?_; case hb => omega)
          | (refine' HL_q rfl rfl (QV_gtr_n (Ev.tmp rfl) Ev.const ?hb) ?_; case hb => omega)
          | (refine' HL_q rfl rfl (QV_gtr (Ev.tmp rfl) Ev.const) ?_)
        simp only [zS0, zS1, zTn, Nat.reduceAdd, Nat.reduceMul, Int.reduceToNat, zG0, zG1, zG2, zCa, zCi, zCb, zCs, zCf, zCn, zCt, zCm, zCp]
    refine' HL_q rfl rfl (QV_pick (Ev.tmp rfl) Ev.const (Ev.tmp rfl)) ?_
    simp only [if_true, if_false, Bool.false_eq_true, reduceIte, zS0, zS1, zTn, Nat.reduceAdd, Nat.reduceMul, Int.reduceToNat, zG0, zG1, zG2, zCa, zCi, zCb, zCs, zCf, zCn, zCt, zCm, zCp]
    refine HL_nil ?_
    refine hN3 _ _ ?_
    try clear hN3 N3
    refine HC_true rfl ?_
    refine HC_seq fun N4 hN4 => ?_
    refine HC_region ?_
    -- operation 0
    refine' HL_call rfl en37 (call_fn EvL.nil.evs) (alive8) ?_
    rintro _ _ ⟨rfl, rfl⟩
    simp only [zS0, zS1, zTn, Nat.reduceAdd, Nat.reduceMul, Int.reduceToNat, zG0, zG1, zG2, zCa, zCi, zCb, zCs, zCf, zCn, zCt, zCm, zCp]
    refine' HL_q rfl rfl (QV_assign (Ev.tmp rfl)) ?_
    simp only [zS0, zS1, zTn, Nat.reduceAdd, Nat.reduceMul, Int.reduceToNat, zG0, zG1, zG2, zCa, zCi, zCb, zCs, zCf, zCn, zCt, zCm, zCp]
    refine HL_nil ?_
    refine hN4 _ _ ?_
    try clear hN4 N4
    refine HC_ret ?_
    try simp only [thenK, blockK]
    refine kr _ _ ?_
    refine' Lv_tmp rfl rfl ?post ?le
    case post => exact ⟨rfl, rfl⟩
    case le => (first | with_reducible exact Le.refl | (refine Le.of ?_; (repeat (first | with_reducible exact Sp.refl | with_reducible exact Sp.nil | (apply Sp.pick; focus ((repeat (first | with_reducible exact Rm.head | with_reducible apply Rm.tail)); done)) | with_reducible refine Sp.drop ?_))))
  · skip
    refine HC_seq fun N2 hN2 => ?_
    refine HC_seq fun N3 hN3 => ?_
    refine HC_region ?_
    -- operation 0
    refine' HL_call rfl en37 (call_fn EvL.nil.evs) (alive8) ?_
    rintro _ _ ⟨rfl, rfl⟩
    simp only [zS0, zS1, zTn, Nat.reduceAdd, Nat.reduceMul, Int.reduceToNat, zG0, zG1, zG2, zCa, zCi, zCb, zCs, zCf, zCn, zCt, zCm, zCp]
    refine' HL_q rfl rfl (QV_un (Ev.tmp rfl) ?hr) ?_
    case hr => intro w; first | (go_simp; done) | (go_simp; rfl)
    simp only [zS0, zS1, zTn, Nat.reduceAdd, Nat.reduceMul, Int.reduceToNat, zG0, zG1, zG2, zCa, zCi, zCb, zCs, zCf, zCn, zCt, zCm, zCp]
    refine' HL_q rfl rfl (QV_move (Ev.tmp rfl)) ?_
    simp only [zS0, zS1, zTn, Nat.reduceAdd, Nat.reduceMul, Int.reduceToNat, zG0, zG1, zG2, zCa, zCi, zCb, zCs, zCf, zCn, zCt, zCm, zCp]
    first
      | (refine HL_skip rfl ?_; simp only [zS0, zS1, zTn, Nat.reduceAdd, Nat.reduceMul, Int.reduceToNat, zG0, zG1, zG2, zCa, zCi, zCb, zCs, zCf, zCn, zCt, zCm, zCp])
      |
        refine' HL_q rfl rfl (QV_move (Ev.tmp rfl)) ?_
        simp only [zS0, zS1, zTn, Nat.reduceAdd, Nat.reduceMul, Int.reduceToNat, zG0, zG1, zG2, zCa, zCi, zCb, zCs, zCf, zCn, zCt, zCm, zCp]
    first
      | (refine HL_skip rfl ?_; simp only [zS0, zS1, zTn, Nat.reduceAdd, Nat.reduceMul, Int.reduceToNat, zG0, zG1, zG2, zCa, zCi, zCb, zCs, zCf, zCn, zCt, zCm, zCp])
      |
        refine' HL_q rfl rfl (QV_len (Ev.tmp rfl) Try.underlying22) ?_
        simp only [zS0, zS1, zTn, Nat.reduceAdd, Nat.reduceMul, Int.reduceToNat, zG0, zG1, zG2, zCa, zCi, zCb, zCs, zCf, zCn, zCt, zCm, zCp]
    first
      | (refine HL_skip rfl ?_; simp only [zS0, zS1, zTn, Nat.reduceAdd, Nat.reduceMul, Int.reduceToNat, zG0, zG1, zG2, zCa, zCi, zCb, zCs, zCf, zCn, zCt, zCm, zCp])
      |
        first
          | (refine' HL_q rfl rfl (QV_gtr_y (Ev.tmp rfl) Ev.const ?hb) ?_; case hb => omega)
          | (refine' HL_q rfl rfl (QV_gtr_n (Ev.tmp rfl) Ev.const ?hb) ?_; case hb => omega)
          | (refine' HL_q rfl rfl (QV_gtr (Ev.tmp rfl) Ev.const) ?_)
        simp only [zS0, zS1, zTn, Nat.reduceAdd, Nat.reduceMul, Int.reduceToNat, zG0, zG1, zG2, zCa, zCi, zCb, zCs, zCf, zCn, zCt, zCm, zCp]
    refine' HL_q rfl rfl (QV_pick (Ev.tmp rfl) Ev.const (Ev.tmp rfl)) ?_
    simp only [if_true, if_false, Bool.false_eq_true, reduceIte, zS0, zS1, zTn, Nat.reduceAdd, Nat.reduceMul, Int.reduceToNat, zG0, zG1, zG2, zCa, zCi, zCb, zCs, zCf, zCn, zCt, zCm, zCp]
    refine HL_nil ?_
    refine hN3 _ _ ?_
    try clear hN3 N3
    refine HC_no rfl rfl ?_
    refine HC_skip ?_
    refine hN2 _ _ ?_
    try clear hN2 N2
    refine HC_seq fun N5 hN5 => ?_
    refine HC_region ?_
    refine' HL_q rfl rfl (QV_assign Ev.const) ?_
    simp only [zS0, zS1, zTn, Nat.reduceAdd, Nat.reduceMul, Int.reduceToNat, zG0, zG1, zG2, zCa, zCi, zCb, zCs, zCf, zCn, zCt, zCm, zCp]
    refine' HL_q rfl rfl (QV_assign Ev.const) ?_
    simp only [zS0, zS1, zTn, Nat.reduceAdd, Nat.reduceMul, Int.reduceToNat, zG0, zG1, zG2, zCa, zCi, zCb, zCs, zCf, zCn, zCt, zCm, zCp]
    refine HL_nil ?_
    refine hN5 _ _ ?_
    try clear hN5 N5
    refine HC_free (A := own 67 2 (.slice none 0 0) 0 []) own_nil_ok own_nil_fp ?_
    refine HC_free (A := own 67 2 (.slice none 0 0) 0 []) own_nil_ok own_nil_fp ?_
    refine HC_seq fun N6 hN6 => ?_
    refine HC_region ?_
    -- operation 0
    refine' HL_s rfl rfl (SO_alloc (cs := bT fun _ => false) Try.zeroValue98 ?hcs) ?_
    case hcs => rfl
    rintro _ _ ⟨g5, rfl, rfl⟩
    simp only [zS0, zS1, zTn, Nat.reduceAdd, Nat.reduceMul, Int.reduceToNat, zG0, zG1, zG2, zCa, zCi, zCb, zCs, zCf, zCn, zCt, zCm, zCp]
    refine HL_nil ?_
    refine hN6 _ _ ?_
    try clear hN6 N6
    refine HC_seq fun N7 hN7 => ?_
    refine HC_seq fun N8 hN8 => ?_
    refine HC_region ?_
    refine' HL_q rfl rfl (QV_assign Ev.const) ?_
    simp only [zS0, zS1, zTn, Nat.reduceAdd, Nat.reduceMul, Int.reduceToNat, zG0, zG1, zG2, zCa, zCi, zCb, zCs, zCf, zCn, zCt, zCm, zCp]
    refine HL_nil ?_
    refine hN8 _ _ ?_
    try clear hN8 N8
    refine HC_block ?_
    refine HC_loop [3, 4, 6] [false, false, true, false, false, false, false, true, true, true, true, true, false, false, false, false, false, false, false, false, false, true, true, true, true, true, true, true, true, true, true, true, true, true, true, true, true, true, true, true, true, true, true, true, true, true, true, true, true, true, true, true, true, true, true, true, true, true, true, true, true, true, true, true, true, true, true, true, true, true, true, true, true] (fun gh vs RR => ∃ (i : Nat) (A : Option Addr) (B : Option Addr) (ca : Nat) (cb : Nat) (la : List Rg) (lb : List Rg) (na : Nat) (nb : Nat) (va : List Value) (vb : List Value) (th : Nat → Bool), vs = [(.slice A na ca), (.slice B nb cb), (.int .i64 i)] ∧ gh = l.length - i ∧ i ≤ l.length ∧ na = la.length ∧ nb = lb.length ∧ va = rgC la ∧ vb = rgC lb ∧ SetOk la ∧ SetOk lb ∧ (∀ n, memR n la = (nums (l.take i)).contains n) ∧ (∀ n, memR n lb = (nums (l.reverse.take i)).contains n) ∧ (∀ n, th n = (nums (l.take i)).contains n) ∧ Sl w0 [own 67 2 (.slice A na ca) na va] 2 A na va ∧ Sl w0 [own 67 2 (.slice B nb cb) nb vb] 2 B nb vb ∧ RR = own 67 2 (.slice A na ca) na va :: own 67 2 (.slice B nb cb) nb vb :: pt g5 (.cells (bT th) 98 (0, 0)) :: []) ?start ?round
    case start =>
      have hnil : SetOk [] := ⟨⟨List.Pairwise.nil, fun r hr => (by cases hr)⟩, by simp⟩
      simp only [List.map_cons, List.map_nil, List.getD_cons_zero, List.getD_cons_succ]
      refine' ⟨_, _, ?le, 0, none, none, 0, 0, [], [], 0, 0, [], [], (fun _ => false), rfl, rfl, (Nat.zero_le _), rfl, rfl, rfl, rfl, hnil, hnil, (fun n => rfl), (fun n => rfl), (fun n => rfl), Sl.nil, Sl.nil, rfl⟩
      case le => (first | with_reducible exact Le.refl | (refine Le.of ?_; (repeat (first | with_reducible exact Sp.refl | with_reducible exact Sp.nil | (apply Sp.pick; focus ((repeat (first | with_reducible exact Rm.head | with_reducible apply Rm.tail)); done)) | with_reducible refine Sp.drop ?_))))
    case round =>
      rintro _ _ _ u ⟨i, A, B, ca, cb, la, lb, na, nb, va, vb, th, rfl, rfl, hi, rfl, rfl, rfl, rfl, sa, sb, ma, mb, mt, hla, hlb, rfl⟩ NL5 hL5
      simp only [setL, fill, List.set_cons_zero, List.set_cons_succ, Nat.reduceAdd]
      refine HC_seq fun N9 hN9 => ?_
      refine HC_seq fun N10 hN10 => ?_
      refine HC_region ?_
      refine' HL_q rfl rfl (QV_move (Ev.tmp rfl)) ?_
      simp only [zS0, zS1, zTn, Nat.reduceAdd, Nat.reduceMul, Int.reduceToNat, zG0, zG1, zG2, zCa, zCi, zCb, zCs, zCf, zCn, zCt, zCm, zCp]
      refine' HL_q rfl rfl (QV_move (Ev.tmp rfl)) ?_
      simp only [zS0, zS1, zTn, Nat.reduceAdd, Nat.reduceMul, Int.reduceToNat, zG0, zG1, zG2, zCa, zCi, zCb, zCs, zCf, zCn, zCt, zCm, zCp]
      refine' HL_q rfl rfl (QV_len (Ev.tmp rfl) Try.underlying22) ?_
      simp only [zS0, zS1, zTn, Nat.reduceAdd, Nat.reduceMul, Int.reduceToNat, zG0, zG1, zG2, zCa, zCi, zCb, zCs, zCf, zCn, zCt, zCm, zCp]
      first
        | (refine' HL_q rfl rfl (QV_lss_y (Ev.tmp rfl) (Ev.tmp rfl) ?hb) ?_; case hb => omega)
        | (refine' HL_q rfl rfl (QV_lss_n (Ev.tmp rfl) (Ev.tmp rfl) ?hb) ?_; case hb => omega)
        | (refine' HL_q rfl rfl (QV_lss (Ev.tmp rfl) (Ev.tmp rfl)) ?_)
      simp only [zS0, zS1, zTn, Nat.reduceAdd, Nat.reduceMul, Int.reduceToNat, zG0, zG1, zG2, zCa, zCi, zCb, zCs, zCf, zCn, zCt, zCm, zCp]
      refine HL_nil ?_
      refine hN10 _ _ ?_
      try clear hN10 N10
      refine HC_cond rfl (fun hc => ?_) (fun hc => ?_)
      · refine HC_skip ?_
        refine hN9 _ _ ?_
        try clear hN9 N9
        have hi' : i < l.length := by simpa using hc
        obtain ⟨gA, oA, rfl⟩ := hs.addr (by omega)
        have x1 := u8_lt l i hi'
        have x2 := u8_lt l (l.length - 1 - i) (by omega)
        have t1 : l.take (i + 1) = l.take i ++ [l[i]] := List.take_succ_eq_append_getElem hi'
        have t2 : l.reverse.take (i + 1) = l.reverse.take i ++ [l[l.length - 1 - i]'(by omega)] := by
          rw [List.take_succ_eq_append_getElem (by simpa using hi'), List.getElem_reverse]
        obtain ⟨x, hx⟩ : ∃ x, l[i] = x := ⟨_, rfl⟩
        obtain ⟨y, hy⟩ : ∃ y, l[l.length - 1 - i]'(by omega) = y := ⟨_, rfl⟩
        rw [hx] at x1 t1
        rw [hy] at x2 t2
        have hx256 : x.toNat < 256 := UInt8.toNat_lt _
        have hy256 : y.toNat < 256 := UInt8.toNat_lt _
        have e1 : (l.length : Int) - 1 = ((l.length - 1 : Nat) : Int) := by omega
        have e2 : ((l.length - 1 : Nat) : Int) - (i : Int) = ((l.length - 1 - i : Nat) : Int) := by omega
        refine HC_seq fun N11 hN11 => ?_
        refine HC_block ?_
        refine HC_seq fun N12 hN12 => ?_
        refine HC_draw 18 [] _ mixed rfl ?_
        refine' DA_take (i := 0) rfl (by kernel_rfl) (fun _ _ _ _ h => (kp _ _ _ h).elim) rfl (QV_move (Ev.tmp rfl)) ?_
        simp only [zS0, zS1, zTn, Nat.reduceAdd, Nat.reduceMul, Int.reduceToNat, zG0, zG1, zG2, zCa, zCi, zCb, zCs, zCf, zCn, zCt, zCm, zCp, e1, e2]
        refine' DA_take (i := 1) rfl (by kernel_rfl) (fun _ _ _ _ h => (kp _ _ _ h).elim) rfl (QV_move (Ev.tmp rfl)) ?_
        simp only [zS0, zS1, zTn, Nat.reduceAdd, Nat.reduceMul, Int.reduceToNat, zG0, zG1, zG2, zCa, zCi, zCb, zCs, zCf, zCn, zCt, zCm, zCp, e1, e2]
        refine' DA_take (i := 2) rfl (by kernel_rfl) (fun _ _ _ _ h => (kp _ _ _ h).elim) rfl (QV_move (Ev.tmp rfl)) ?_
        simp only [zS0, zS1, zTn, Nat.reduceAdd, Nat.reduceMul, Int.reduceToNat, zG0, zG1, zG2, zCa, zCi, zCb, zCs, zCf, zCn, zCt, zCm, zCp, e1, e2]
        refine' DA_take (i := 3) rfl (by kernel_rfl) (fun _ _ _ _ h => (kp _ _ _ h).elim) rfl (QV_index (Ev.tmp rfl) (Ev.tmp rfl) (indexAt_slice Try.underlying22 Try.sizeOf5 ?h0 ?h1)) ?_
        case h0 => omega
        case h1 => omega
        simp only [zS0, zS1, zTn, Nat.reduceAdd, Nat.reduceMul, Int.reduceToNat, zG0, zG1, zG2, zCa, zCi, zCb, zCs, zCf, zCn, zCt, zCm, zCp, e1, e2]
        refine' DA_take (i := 4) rfl (by kernel_rfl) (fun _ _ _ _ h => (kp _ _ _ h).elim) rfl (QV_loadR (Ev.tmp rfl) ?hp Try.isAgg5 (hs' _) x1) ?_
        case hp => omega
        simp only [zS0, zS1, zTn, Nat.reduceAdd, Nat.reduceMul, Int.reduceToNat, zG0, zG1, zG2, zCa, zCi, zCb, zCs, zCf, zCn, zCt, zCm, zCp, e1, e2]
        refine' DA_take (i := 5) rfl (by kernel_rfl) (fun _ _ _ _ h => (kp _ _ _ h).elim) rfl (QV_cvt Try.underlying5 Try.underlying30 rfl (Ev.tmp rfl) ?hr) ?_
        case hr => first | exact IntWalk.i64_in _ (by omega) | exact IntWalk.u64_in _ (by omega) | exact IntWalk.u8_in _ (by omega) | exact IntWalk.u32_in _ (by omega) | exact IntWalk.i64_quo _ _ (by omega) | exact IntWalk.u64_quo _ _ (by omega) | rfl
        simp only [zS0, zS1, zTn, Nat.reduceAdd, Nat.reduceMul, Int.reduceToNat, zG0, zG1, zG2, zCa, zCi, zCb, zCs, zCf, zCn, zCt, zCm, zCp, e1, e2]
        refine' DA_take (i := 6) rfl (by kernel_rfl) (fun _ _ _ _ h => (kp _ _ _ h).elim) rfl (QV_move (Ev.tmp rfl)) ?_
        simp only [zS0, zS1, zTn, Nat.reduceAdd, Nat.reduceMul, Int.reduceToNat, zG0, zG1, zG2, zCa, zCi, zCb, zCs, zCf, zCn, zCt, zCm, zCp, e1, e2]
        refine' DA_take (i := 7) rfl (by kernel_rfl) (fun _ _ _ _ h => (kp _ _ _ h).elim) rfl (QV_move (Ev.tmp rfl)) ?_
        simp only [zS0, zS1, zTn, Nat.reduceAdd, Nat.reduceMul, Int.reduceToNat, zG0, zG1, zG2, zCa, zCi, zCb, zCs, zCf, zCn, zCt, zCm, zCp, e1, e2]
        refine' DA_take (i := 8) rfl (by kernel_rfl) (fun _ _ _ _ h => (kp _ _ _ h).elim) rfl (QV_index (Ev.tmp rfl) (Ev.tmp rfl) (indexAt_slice Try.underlying22 Try.sizeOf5 ?h0 ?h1)) ?_
        case h0 => omega
        case h1 => omega
        simp only [zS0, zS1, zTn, Nat.reduceAdd, Nat.reduceMul, Int.reduceToNat, zG0, zG1, zG2, zCa, zCi, zCb, zCs, zCf, zCn, zCt, zCm, zCp, e1, e2]
        refine' DA_take (i := 9) rfl (by kernel_rfl) (fun _ _ _ _ h => (kp _ _ _ h).elim) rfl (QV_loadR (Ev.tmp rfl) ?hp Try.isAgg5 (hs' _) x1) ?_
        case hp => omega
        simp only [zS0, zS1, zTn, Nat.reduceAdd, Nat.reduceMul, Int.reduceToNat, zG0, zG1, zG2, zCa, zCi, zCb, zCs, zCf, zCn, zCt, zCm, zCp, e1, e2]
        refine' DA_take (i := 10) rfl (by kernel_rfl) (fun _ _ _ _ h => (kp _ _ _ h).elim) rfl (QV_cvt Try.underlying5 Try.underlying30 rfl (Ev.tmp rfl) ?hr) ?_
        case hr => first | exact IntWalk.i64_in _ (by omega) | exact IntWalk.u64_in _ (by omega) | exact IntWalk.u8_in _ (by omega) | exact IntWalk.u32_in _ (by omega) | exact IntWalk.i64_quo _ _ (by omega) | exact IntWalk.u64_quo _ _ (by omega) | rfl
        simp only [zS0, zS1, zTn, Nat.reduceAdd, Nat.reduceMul, Int.reduceToNat, zG0, zG1, zG2, zCa, zCi, zCb, zCs, zCf, zCn, zCt, zCm, zCp, e1, e2]
        refine DA_one (i := 11) (by kernel_rfl) ?_
        refine' DB_call (i := 11) rfl rfl en48 (call_fn (EvL.cons (Ev.tmp rfl) (EvL.cons (Ev.tmp rfl) EvL.nil)).evs) (rg_calls) ?_
        rintro _ _ ⟨rfl, rfl⟩
        refine ⟨[], rfl, ?_⟩
        simp only [List.nil_append]
        simp only [zS0, zS1, zTn, Nat.reduceAdd, Nat.reduceMul, Int.reduceToNat, zG0, zG1, zG2, zCa, zCi, zCb, zCs, zCf, zCn, zCt, zCm, zCp, e1, e2]
        refine DA_one (i := 12) (by kernel_rfl) ?_
        refine' DB_call (i := 12) rfl rfl en35 (call_fn (EvL.cons (Ev.tmp rfl) (EvL.cons (Ev.tmp rfl) EvL.nil)).evs) ((add_calls (l := la) (x := x.toNat) (y := x.toNat) (hla.sub (by rw [List.nil_append]; exact (by (repeat (first | with_reducible exact List.Sublist.refl _ | with_reducible exact List.nil_sublist _ | with_reducible apply List.Sublist.cons_cons | with_reducible apply List.Sublist.cons))))) (wide_of sa.1) (canon_long sa))) ?_
        rintro _ _ ⟨A1, c1, o1, f1, rfl, rfl, hl1, hs1⟩
        refine ⟨[_], rfl, ?_⟩
        simp only [zS0, zS1, zTn, Nat.reduceAdd, Nat.reduceMul, Int.reduceToNat, zG0, zG1, zG2, zCa, zCi, zCb, zCs, zCf, zCn, zCt, zCm, zCp, e1, e2]
        refine' DA_take (i := 13) rfl (by kernel_rfl) (fun _ _ _ _ h => (kp _ _ _ h).elim) rfl (QV_move (Ev.tmp rfl)) ?_
        simp only [zS0, zS1, zTn, Nat.reduceAdd, Nat.reduceMul, Int.reduceToNat, zG0, zG1, zG2, zCa, zCi, zCb, zCs, zCf, zCn, zCt, zCm, zCp, e1, e2]
        refine' DA_take (i := 14) rfl (by kernel_rfl) (fun _ _ _ _ h => (kp _ _ _ h).elim) rfl (QV_extract (Ev.tmp rfl) rfl) ?_
        simp only [zS0, zS1, zTn, Nat.reduceAdd, Nat.reduceMul, Int.reduceToNat, zG0, zG1, zG2, zCa, zCi, zCb, zCs, zCf, zCn, zCt, zCm, zCp, e1, e2]
        refine' DA_take (i := 15) rfl (by kernel_rfl) (fun _ _ _ _ h => (kp _ _ _ h).elim) rfl (QV_extract (Ev.tmp rfl) rfl) ?_
        simp only [zS0, zS1, zTn, Nat.reduceAdd, Nat.reduceMul, Int.reduceToNat, zG0, zG1, zG2, zCa, zCi, zCb, zCs, zCf, zCn, zCt, zCm, zCp, e1, e2]
        refine' DA_take (i := 16) rfl (by kernel_rfl) (fun _ _ _ _ h => (kp _ _ _ h).elim) rfl (QV_assign (Ev.tmp rfl)) ?_
        simp only [zS0, zS1, zTn, Nat.reduceAdd, Nat.reduceMul, Int.reduceToNat, zG0, zG1, zG2, zCa, zCi, zCb, zCs, zCf, zCn, zCt, zCm, zCp, e1, e2]
        refine' DA_take (i := 17) rfl (by kernel_rfl) (fun _ _ _ _ h => (kp _ _ _ h).elim) rfl (QV_assign (Ev.tmp rfl)) ?_
        simp only [zS0, zS1, zTn, Nat.reduceAdd, Nat.reduceMul, Int.reduceToNat, zG0, zG1, zG2, zCa, zCi, zCb, zCs, zCf, zCn, zCt, zCm, zCp, e1, e2]
        refine DA_done (by kernel_rfl) ?_
        try simp only [List.nil_append, List.cons_append]
        refine hN12 _ _ ?_
        try clear hN12 N12
        obtain ⟨rfl, so1, mo1⟩ := add_num sa ma (by rw [List.length_take]; omega) hs1
        refine HC_seq fun N13 hN13 => ?_
        refine HC_region ?_
        refine' HL_q rfl rfl (QV_move (Ev.tmp rfl)) ?_
        simp only [zS0, zS1, zTn, Nat.reduceAdd, Nat.reduceMul, Int.reduceToNat, zG0, zG1, zG2, zCa, zCi, zCb, zCs, zCf, zCn, zCt, zCm, zCp, e1, e2]
        refine' HL_q rfl rfl (QV_move (Ev.tmp rfl)) ?_
        simp only [zS0, zS1, zTn, Nat.reduceAdd, Nat.reduceMul, Int.reduceToNat, zG0, zG1, zG2, zCa, zCi, zCb, zCs, zCf, zCn, zCt, zCm, zCp, e1, e2]
        refine' HL_q rfl rfl (QV_len (Ev.tmp rfl) Try.underlying22) ?_
        simp only [zS0, zS1, zTn, Nat.reduceAdd, Nat.reduceMul, Int.reduceToNat, zG0, zG1, zG2, zCa, zCi, zCb, zCs, zCf, zCn, zCt, zCm, zCp, e1, e2]
        refine' HL_q rfl rfl (QV_sub (Ev.tmp rfl) Ev.const ?hr) ?_
        case hr => first | exact IntWalk.i64_in _ (by omega) | exact IntWalk.u64_in _ (by omega) | exact IntWalk.u8_in _ (by omega) | exact IntWalk.u32_in _ (by omega) | exact IntWalk.i64_quo _ _ (by omega) | exact IntWalk.u64_quo _ _ (by omega) | rfl
        simp only [zS0, zS1, zTn, Nat.reduceAdd, Nat.reduceMul, Int.reduceToNat, zG0, zG1, zG2, zCa, zCi, zCb, zCs, zCf, zCn, zCt, zCm, zCp, e1, e2]
        refine' HL_q rfl rfl (QV_move (Ev.tmp rfl)) ?_
        simp only [zS0, zS1, zTn, Nat.reduceAdd, Nat.reduceMul, Int.reduceToNat, zG0, zG1, zG2, zCa, zCi, zCb, zCs, zCf, zCn, zCt, zCm, zCp, e1, e2]
        refine' HL_q rfl rfl (QV_sub (Ev.tmp rfl) (Ev.tmp rfl) ?hr) ?_
        case hr => first | exact IntWalk.i64_in _ (by omega) | exact IntWalk.u64_in _ (by omega) | exact IntWalk.u8_in _ (by omega) | exact IntWalk.u32_in _ (by omega) | exact IntWalk.i64_quo _ _ (by omega) | exact IntWalk.u64_quo _ _ (by omega) | rfl
        simp only [zS0, zS1, zTn, Nat.reduceAdd, Nat.reduceMul, Int.reduceToNat, zG0, zG1, zG2, zCa, zCi, zCb, zCs, zCf, zCn, zCt, zCm, zCp, e1, e2]
        refine' HL_q rfl rfl (QV_index (Ev.tmp rfl) (Ev.tmp rfl) (indexAt_slice Try.underlying22 Try.sizeOf5 ?h0 ?h1)) ?_
        case h0 => omega
        case h1 => omega
        simp only [zS0, zS1, zTn, Nat.reduceAdd, Nat.reduceMul, Int.reduceToNat, zG0, zG1, zG2, zCa, zCi, zCb, zCs, zCf, zCn, zCt, zCm, zCp, e1, e2]
        -- operation 7
        refine' HL_q rfl rfl (QV_loadR (Ev.tmp rfl) ?hp Try.isAgg5 (hs' _) x2) ?_
        case hp => omega
        simp only [zS0, zS1, zTn, Nat.reduceAdd, Nat.reduceMul, Int.reduceToNat, zG0, zG1, zG2, zCa, zCi, zCb, zCs, zCf, zCn, zCt, zCm, zCp, e1, e2]
        refine' HL_q rfl rfl (QV_cvt Try.underlying5 Try.underlying30 rfl (Ev.tmp rfl) ?hr) ?_
        case hr => first | exact IntWalk.i64_in _ (by omega) | exact IntWalk.u64_in _ (by omega) | exact IntWalk.u8_in _ (by omega) | exact IntWalk.u32_in _ (by omega) | exact IntWalk.i64_quo _ _ (by omega) | exact IntWalk.u64_quo _ _ (by omega) | rfl
        simp only [zS0, zS1, zTn, Nat.reduceAdd, Nat.reduceMul, Int.reduceToNat, zG0, zG1, zG2, zCa, zCi, zCb, zCs, zCf, zCn, zCt, zCm, zCp, e1, e2]
        refine' HL_q rfl rfl (QV_assign (Ev.tmp rfl)) ?_
        simp only [zS0, zS1, zTn, Nat.reduceAdd, Nat.reduceMul, Int.reduceToNat, zG0, zG1, zG2, zCa, zCi, zCb, zCs, zCf, zCn, zCt, zCm, zCp, e1, e2]
        refine HL_nil ?_
        refine hN13 _ _ ?_
        try clear hN13 N13
        refine HC_seq fun N14 hN14 => ?_
        refine HC_region ?_
        refine' HL_q rfl rfl (QV_move (Ev.tmp rfl)) ?_
        simp only [zS0, zS1, zTn, Nat.reduceAdd, Nat.reduceMul, Int.reduceToNat, zG0, zG1, zG2, zCa, zCi, zCb, zCs, zCf, zCn, zCt, zCm, zCp, e1, e2]
        refine' HL_q rfl rfl (QV_move (Ev.tmp rfl)) ?_
        simp only [zS0, zS1, zTn, Nat.reduceAdd, Nat.reduceMul, Int.reduceToNat, zG0, zG1, zG2, zCa, zCi, zCb, zCs, zCf, zCn, zCt, zCm, zCp, e1, e2]
        refine' HL_q rfl rfl (QV_move (Ev.tmp rfl)) ?_
        simp only [zS0, zS1, zTn, Nat.reduceAdd, Nat.reduceMul, Int.reduceToNat, zG0, zG1, zG2, zCa, zCi, zCb, zCs, zCf, zCn, zCt, zCm, zCp, e1, e2]
        -- operation 3
        refine' HL_call rfl en48 (call_fn (EvL.cons (Ev.tmp rfl) (EvL.cons (Ev.tmp rfl) EvL.nil)).evs) (rg_calls) ?_
        rintro _ _ ⟨rfl, rfl⟩
        simp only [zS0, zS1, zTn, Nat.reduceAdd, Nat.reduceMul, Int.reduceToNat, zG0, zG1, zG2, zCa, zCi, zCb, zCs, zCf, zCn, zCt, zCm, zCp, e1, e2]
        -- operation 4
        refine' HL_call rfl en35 (call_fn (EvL.cons (Ev.tmp rfl) (EvL.cons (Ev.tmp rfl) EvL.nil)).evs) ((add_calls (l := lb) (x := y.toNat) (y := y.toNat) (hlb.sub (by (repeat (first | with_reducible exact List.Sublist.refl _ | with_reducible exact List.nil_sublist _ | with_reducible apply List.Sublist.cons_cons | with_reducible apply List.Sublist.cons)))) (wide_of sb.1) (canon_long sb))) ?_
        rintro _ _ ⟨A2, c2, o2, f2, rfl, rfl, hl2, hs2⟩
        simp only [zS0, zS1, zTn, Nat.reduceAdd, Nat.reduceMul, Int.reduceToNat, zG0, zG1, zG2, zCa, zCi, zCb, zCs, zCf, zCn, zCt, zCm, zCp, e1, e2]
        refine' HL_q rfl rfl (QV_move (Ev.tmp rfl)) ?_
        simp only [zS0, zS1, zTn, Nat.reduceAdd, Nat.reduceMul, Int.reduceToNat, zG0, zG1, zG2, zCa, zCi, zCb, zCs, zCf, zCn, zCt, zCm, zCp, e1, e2]
        refine' HL_q rfl rfl (QV_extract (Ev.tmp rfl) rfl) ?_
        simp only [zS0, zS1, zTn, Nat.reduceAdd, Nat.reduceMul, Int.reduceToNat, zG0, zG1, zG2, zCa, zCi, zCb, zCs, zCf, zCn, zCt, zCm, zCp, e1, e2]
        refine' HL_q rfl rfl (QV_extract (Ev.tmp rfl) rfl) ?_
        simp only [zS0, zS1, zTn, Nat.reduceAdd, Nat.reduceMul, Int.reduceToNat, zG0, zG1, zG2, zCa, zCi, zCb, zCs, zCf, zCn, zCt, zCm, zCp, e1, e2]
        refine' HL_q rfl rfl (QV_assign (Ev.tmp rfl)) ?_
        simp only [zS0, zS1, zTn, Nat.reduceAdd, Nat.reduceMul, Int.reduceToNat, zG0, zG1, zG2, zCa, zCi, zCb, zCs, zCf, zCn, zCt, zCm, zCp, e1, e2]
        refine' HL_q rfl rfl (QV_assign (Ev.tmp rfl)) ?_
        simp only [zS0, zS1, zTn, Nat.reduceAdd, Nat.reduceMul, Int.reduceToNat, zG0, zG1, zG2, zCa, zCi, zCb, zCs, zCf, zCn, zCt, zCm, zCp, e1, e2]
        refine HL_nil ?_
        refine hN14 _ _ ?_
        try clear hN14 N14
        obtain ⟨rfl, so2, mo2⟩ := add_num sb mb (by rw [List.length_take]; omega) hs2
        refine HC_seq fun N15 hN15 => ?_
        refine HC_seq fun N16 hN16 => ?_
        refine HC_region ?_
        refine' HL_q rfl rfl (QV_move (Ev.tmp rfl)) ?_
        simp only [zS0, zS1, zTn, Nat.reduceAdd, Nat.reduceMul, Int.reduceToNat, zG0, zG1, zG2, zCa, zCi, zCb, zCs, zCf, zCn, zCt, zCm, zCp, e1, e2]
        first
          | (refine' HL_q rfl rfl (QV_neq_y (Ev.tmp rfl) Ev.const ?hb) ?_; case hb => omega)
          | (refine' HL_q rfl rfl (QV_neq_n (Ev.tmp rfl) Ev.const ?hb) ?_; case hb => omega)
          | (refine' HL_q rfl rfl (QV_neq (Ev.tmp rfl) Ev.const) ?_)
        simp only [zS0, zS1, zTn, Nat.reduceAdd, Nat.reduceMul, Int.reduceToNat, zG0, zG1, zG2, zCa, zCi, zCb, zCs, zCf, zCn, zCt, zCm, zCp, e1, e2]
        refine' HL_q rfl rfl (QV_move (Ev.tmp rfl)) ?_
        simp only [zS0, zS1, zTn, Nat.reduceAdd, Nat.reduceMul, Int.reduceToNat, zG0, zG1, zG2, zCa, zCi, zCb, zCs, zCf, zCn, zCt, zCm, zCp, e1, e2]
        first
          | (refine HL_skip rfl ?_; simp only [zS0, zS1, zTn, Nat.reduceAdd, Nat.reduceMul, Int.reduceToNat, zG0, zG1, zG2, zCa, zCi, zCb, zCs, zCf, zCn, zCt, zCm, zCp, e1, e2])
          |
            refine' HL_q rfl rfl (QV_move (Ev.tmp rfl)) ?_
            simp only [zS0, zS1, zTn, Nat.reduceAdd, Nat.reduceMul, Int.reduceToNat, zG0, zG1, zG2, zCa, zCi, zCb, zCs, zCf, zCn, zCt, zCm, zCp, e1, e2]
        first
          | (refine HL_skip rfl ?_; simp only [zS0, zS1, zTn, Nat.reduceAdd, Nat.reduceMul, Int.reduceToNat, zG0, zG1, zG2, zCa, zCi, zCb, zCs, zCf, zCn, zCt, zCm, zCp, e1, e2])
          |
            first
              | (refine' HL_q rfl rfl (QV_neq_y (Ev.tmp rfl) Ev.const ?hb) ?_; case hb => omega)
              | (refine' HL_q rfl rfl (QV_neq_n (Ev.tmp rfl) Ev.const ?hb) ?_; case hb => omega)
              | (refine' HL_q rfl rfl (QV_neq (Ev.tmp rfl) Ev.const) ?_)
            simp only [zS0, zS1, zTn, Nat.reduceAdd, Nat.reduceMul, Int.reduceToNat, zG0, zG1, zG2, zCa, zCi, zCb, zCs, zCf, zCn, zCt, zCm, zCp, e1, e2]
        refine' HL_q rfl rfl (QV_pick (Ev.tmp rfl) Ev.const (Ev.tmp rfl)) ?_
        simp only [if_true, if_false, Bool.false_eq_true, reduceIte, zS0, zS1, zTn, Nat.reduceAdd, Nat.reduceMul, Int.reduceToNat, zG0, zG1, zG2, zCa, zCi, zCb, zCs, zCf, zCn, zCt, zCm, zCp, e1, e2]
        refine HL_nil ?_
        refine hN16 _ _ ?_
        try clear hN16 N16
        refine HC_false rfl ?_
        refine HC_skip ?_
        refine hN15 _ _ ?_
        try clear hN15 N15
        refine HC_seq fun N18 hN18 => ?_
        refine HC_region ?_
        refine' HL_q rfl rfl (QV_move (Ev.tmp rfl)) ?_
        simp only [zS0, zS1, zTn, Nat.reduceAdd, Nat.reduceMul, Int.reduceToNat, zG0, zG1, zG2, zCa, zCi, zCb, zCs, zCf, zCn, zCt, zCm, zCp, e1, e2]
        refine' HL_q rfl rfl (QV_assign (Ev.tmp rfl)) ?_
        simp only [zS0, zS1, zTn, Nat.reduceAdd, Nat.reduceMul, Int.reduceToNat, zG0, zG1, zG2, zCa, zCi, zCb, zCs, zCf, zCn, zCt, zCm, zCp, e1, e2]
        refine HL_nil ?_
        refine hN18 _ _ ?_
        try clear hN18 N18
        refine HC_seq fun N19 hN19 => ?_
        refine HC_region ?_
        refine' HL_q rfl rfl (QV_move (Ev.tmp rfl)) ?_
        simp only [zS0, zS1, zTn, Nat.reduceAdd, Nat.reduceMul, Int.reduceToNat, zG0, zG1, zG2, zCa, zCi, zCb, zCs, zCf, zCn, zCt, zCm, zCp, e1, e2]
        refine' HL_q rfl rfl (QV_assign (Ev.tmp rfl)) ?_
        simp only [zS0, zS1, zTn, Nat.reduceAdd, Nat.reduceMul, Int.reduceToNat, zG0, zG1, zG2, zCa, zCi, zCb, zCs, zCf, zCn, zCt, zCm, zCp, e1, e2]
        refine HL_nil ?_
        refine hN19 _ _ ?_
        try clear hN19 N19
        refine HC_region ?_
        refine' HL_q rfl rfl (QV_move (Ev.tmp rfl)) ?_
        simp only [zS0, zS1, zTn, Nat.reduceAdd, Nat.reduceMul, Int.reduceToNat, zG0, zG1, zG2, zCa, zCi, zCb, zCs, zCf, zCn, zCt, zCm, zCp, e1, e2]
        refine' HL_q rfl rfl (QV_move (Ev.tmp rfl)) ?_
        simp only [zS0, zS1, zTn, Nat.reduceAdd, Nat.reduceMul, Int.reduceToNat, zG0, zG1, zG2, zCa, zCi, zCb, zCs, zCf, zCn, zCt, zCm, zCp, e1, e2]
        refine' HL_q rfl rfl (QV_index (Ev.tmp rfl) (Ev.tmp rfl) (indexAt_slice Try.underlying22 Try.sizeOf5 ?h0 ?h1)) ?_
        case h0 => omega
        case h1 => omega
        simp only [zS0, zS1, zTn, Nat.reduceAdd, Nat.reduceMul, Int.reduceToNat, zG0, zG1, zG2, zCa, zCi, zCb, zCs, zCf, zCn, zCt, zCm, zCp, e1, e2]
        -- operation 3
        refine' HL_q rfl rfl (QV_loadR (Ev.tmp rfl) ?hp Try.isAgg5 (hs' _) x1) ?_
        case hp => omega
        simp only [zS0, zS1, zTn, Nat.reduceAdd, Nat.reduceMul, Int.reduceToNat, zG0, zG1, zG2, zCa, zCi, zCb, zCs, zCf, zCn, zCt, zCm, zCp, e1, e2]
        refine' HL_q rfl rfl (QV_index (Ev.tmp rfl) (Ev.tmp rfl) (indexAt_array Try.underlying98 Try.sizeOf4 ?h0 ?h1)) ?_
        case h0 => omega
        case h1 => omega
        simp only [zS0, zS1, zTn, Nat.reduceAdd, Nat.reduceMul, Int.reduceToNat, zG0, zG1, zG2, zCa, zCi, zCb, zCs, zCf, zCn, zCt, zCm, zCp, e1, e2]
        -- operation 5
        refine' HL_s rfl rfl (SO_store (Ev.tmp rfl) Ev.const Try.sizeOf4 ?hvs ?hn ?h1 ?hm ?hfit) ?_
        case hvs => rfl
        case hn => rfl
        case h1 => rfl
        case hm => (repeat (first | with_reducible exact Upd.head | apply Upd.tail))
        case hfit => rw [bT_size]; simp; omega
        rintro _ _ ⟨rfl, rfl⟩
        simp only [zS0, zS1, zTn, Nat.reduceAdd, Nat.reduceMul, Int.reduceToNat, zG0, zG1, zG2, zCa, zCi, zCb, zCs, zCf, zCn, zCt, zCm, zCp, e1, e2]
        simp only [bT_set th hx256]
        refine HL_nil ?_
        try simp only [blockK]
        refine hN11 _ _ ?_
        try clear hN11 N11
        refine HC_region ?_
        refine' HL_q rfl rfl (QV_move (Ev.tmp rfl)) ?_
        simp only [zS0, zS1, zTn, Nat.reduceAdd, Nat.reduceMul, Int.reduceToNat, zG0, zG1, zG2, zCa, zCi, zCb, zCs, zCf, zCn, zCt, zCm, zCp, e1, e2]
        refine' HL_q rfl rfl (QV_add (Ev.tmp rfl) Ev.const ?hr) ?_
        case hr => first | exact IntWalk.i64_in _ (by omega) | exact IntWalk.u64_in _ (by omega) | exact IntWalk.u8_in _ (by omega) | exact IntWalk.u32_in _ (by omega) | exact IntWalk.i64_quo _ _ (by omega) | exact IntWalk.u64_quo _ _ (by omega) | rfl
        simp only [zS0, zS1, zTn, Nat.reduceAdd, Nat.reduceMul, Int.reduceToNat, zG0, zG1, zG2, zCa, zCi, zCb, zCs, zCf, zCn, zCt, zCm, zCp, e1, e2]
        refine' HL_q rfl rfl (QV_assign (Ev.tmp rfl)) ?_
        simp only [zS0, zS1, zTn, Nat.reduceAdd, Nat.reduceMul, Int.reduceToNat, zG0, zG1, zG2, zCa, zCi, zCb, zCs, zCf, zCn, zCt, zCm, zCp, e1, e2]
        refine HL_nil ?_
        try simp only [thenK]
        refine' againL hL5 (Gets.cons rfl (Gets.cons rfl (Gets.cons rfl Gets.nil))) ?lt ?ag1 ?le ⟨i + 1, A1, A2, c1, c2, o1, o2, _, _, _, _, (fun n => th n || (n == x.toNat)), rfl, rfl, by omega, rfl, rfl, rfl, rfl, so1, so2, (fun n => by rw [mo1, t1]), (fun n => by rw [mo2, t2]), (fun n => by rw [t1, nums_snoc, ← mt]), hl1, hl2, rfl⟩
        case ag1 => (simp only [setL, List.set_cons_zero, List.set_cons_succ]; exact (Ag.keep (Ag.keep (Ag.any (Ag.keep (Ag.keep (Ag.keep (Ag.keep (Ag.any (Ag.any (Ag.any (Ag.any (Ag.any (Ag.keep (Ag.keep (Ag.keep (Ag.keep (Ag.keep (Ag.keep (Ag.keep (Ag.keep (Ag.keep (Ag.any (Ag.any (Ag.any (Ag.any (Ag.any (Ag.any (Ag.any (Ag.any (Ag.any (Ag.any (Ag.any (Ag.any (Ag.any (Ag.any (Ag.any (Ag.any (Ag.any (Ag.any (Ag.any (Ag.any (Ag.any (Ag.any (Ag.any (Ag.any (Ag.any (Ag.any (Ag.any (Ag.any (Ag.any (Ag.any (Ag.any (Ag.any (Ag.any (Ag.any (Ag.any (Ag.any (Ag.any (Ag.any (Ag.any (Ag.any (Ag.any (Ag.any (Ag.any (Ag.any (Ag.any (Ag.any (Ag.any (Ag.any (Ag.any (Ag.any (Ag.any (Ag.any Ag.nil))))))))))))))))))))))))))))))))))))))))))))))))))))))))))))))))))))))))))
        case le => (first | with_reducible exact Le.refl | (refine Le.of ?_; (repeat (first | with_reducible exact Sp.refl | with_reducible exact Sp.nil | (apply Sp.pick; focus ((repeat (first | with_reducible exact Rm.head | with_reducible apply Rm.tail)); done)) | with_reducible refine Sp.drop ?_))))
        case lt => omega
      · refine HC_exit ?_
        simp only [thenK, blockK, reduceIte]
        have hi' : i = l.length := by simp at hc; omega
        subst hi'
        have hsame : la = lb := canon_ext sa.1 sb.1 fun n => by
          rw [ma, mb, List.take_of_length_le (Nat.le_refl _), List.take_of_length_le (by simp), Bool.eq_iff_iff]
          simp [nums]
        subst hsame
        rw [List.take_length] at ma mt
        refine hN7 _ _ ?_
        try clear hN7 N7
        refine HC_seq fun N20 hN20 => ?_
        refine HC_seq fun N21 hN21 => ?_
        refine HC_region ?_
        refine' HL_q rfl rfl (QV_assign Ev.const) ?_
        simp only [zS0, zS1, zTn, Nat.reduceAdd, Nat.reduceMul, Int.reduceToNat, zG0, zG1, zG2, zCa, zCi, zCb, zCs, zCf, zCn, zCt, zCm, zCp, Nat.add_zero]
        refine HL_nil ?_
        refine hN21 _ _ ?_
        try clear hN21 N21
        refine HC_block ?_
        refine HC_loop [12] [false, false, true, false, false, false, false, false, false, false, false, false, false, false, false, false, false, false, false, false, false, false, false, false, false, false, false, false, false, false, false, false, false, false, false, false, false, false, false, false, false, false, false, false, false, false, false, false, false, false, false, false, false, false, false, false, false, false, false, false, false, false, false, false, false, false, false, false, false, false, false, false, false, true, true, true, true, true, true, true, true, true, true, true, true] (fun gh vs RR => ∃ (n : Nat), vs = [(.int .i64 n)] ∧ gh = 256 - n ∧ n ≤ 256 ∧ RR = [own 67 2 (.slice A la.length ca) la.length (rgC la), own 67 2 (.slice B la.length cb) la.length (rgC la), pt g5 (.cells (bT th) 98 (0, 0))]) ?start ?round
        case start =>
          simp only [List.map_cons, List.map_nil, List.getD_cons_zero, List.getD_cons_succ]
          refine' ⟨_, _, ?le, 0, rfl, rfl, (Nat.zero_le _), rfl⟩
          case le => (first | with_reducible exact Le.refl | (refine Le.of ?_; (repeat (first | with_reducible exact Sp.refl | with_reducible exact Sp.nil | (apply Sp.pick; focus ((repeat (first | with_reducible exact Rm.head | with_reducible apply Rm.tail)); done)) | with_reducible refine Sp.drop ?_))))
        case round =>
          rintro _ _ _ u ⟨n, rfl, rfl, hn, rfl⟩ NL16 hL16
          simp only [setL, fill, List.set_cons_zero, List.set_cons_succ, Nat.reduceAdd]
          refine HC_seq fun N22 hN22 => ?_
          refine HC_seq fun N23 hN23 => ?_
          refine HC_region ?_
          refine' HL_q rfl rfl (QV_move (Ev.tmp rfl)) ?_
          simp only [zS0, zS1, zTn, Nat.reduceAdd, Nat.reduceMul, Int.reduceToNat, zG0, zG1, zG2, zCa, zCi, zCb, zCs, zCf, zCn, zCt, zCm, zCp, Nat.add_zero]
          first
            | (refine' HL_q rfl rfl (QV_lss_y (Ev.tmp rfl) Ev.const ?hb) ?_; case hb => omega)
            | (refine' HL_q rfl rfl (QV_lss_n (Ev.tmp rfl) Ev.const ?hb) ?_; case hb => omega)
            | (refine' HL_q rfl rfl (QV_lss (Ev.tmp rfl) Ev.const) ?_)
          simp only [zS0, zS1, zTn, Nat.reduceAdd, Nat.reduceMul, Int.reduceToNat, zG0, zG1, zG2, zCa, zCi, zCb, zCs, zCf, zCn, zCt, zCm, zCp, Nat.add_zero]
          refine HL_nil ?_
          refine hN23 _ _ ?_
          try clear hN23 N23
          refine HC_cond rfl (fun hc => ?_) (fun hc => ?_)
          · refine HC_skip ?_
            refine hN22 _ _ ?_
            try clear hN22 N22
            have hn' : n < 256 := by simp at hc; omega
            have hb := bT_get th hn'
            have hmt : memR n la = th n := by rw [ma, mt]
            refine HC_seq fun N24 hN24 => ?_
            refine HC_block ?_
            refine HC_seq fun N25 hN25 => ?_
            refine HC_draw 8 [] _ mixed rfl ?_
            refine' DA_take (i := 0) rfl (by kernel_rfl) (fun _ _ _ _ h => (kp _ _ _ h).elim) rfl (QV_move (Ev.tmp rfl)) ?_
            simp only [zS0, zS1, zTn, Nat.reduceAdd, Nat.reduceMul, Int.reduceToNat, zG0, zG1, zG2, zCa, zCi, zCb, zCs, zCf, zCn, zCt, zCm, zCp, Nat.add_zero]
            refine' DA_take (i := 1) rfl (by kernel_rfl) (fun _ _ _ _ h => (kp _ _ _ h).elim) rfl (QV_move (Ev.tmp rfl)) ?_
            simp only [zS0, zS1, zTn, Nat.reduceAdd, Nat.reduceMul, Int.reduceToNat, zG0, zG1, zG2, zCa, zCi, zCb, zCs, zCf, zCn, zCt, zCm, zCp, Nat.add_zero]
            refine' DA_take (i := 2) rfl (by kernel_rfl) (fun _ _ _ _ h => (kp _ _ _ h).elim) rfl (QV_cvt Try.underlying3 Try.underlying30 rfl (Ev.tmp rfl) ?hr) ?_
            case hr => first | exact IntWalk.i64_in _ (by omega) | exact IntWalk.u64_in _ (by omega) | exact IntWalk.u8_in _ (by omega) | exact IntWalk.u32_in _ (by omega) | exact IntWalk.i64_quo _ _ (by omega) | exact IntWalk.u64_quo _ _ (by omega) | rfl
            simp only [zS0, zS1, zTn, Nat.reduceAdd, Nat.reduceMul, Int.reduceToNat, zG0, zG1, zG2, zCa, zCi, zCb, zCs, zCf, zCn, zCt, zCm, zCp, Nat.add_zero]
            refine' DA_take (i := 4) rfl (by kernel_rfl) (fun _ _ _ _ h => (kp _ _ _ h).elim) rfl (QV_move (Ev.tmp rfl)) ?_
            simp only [zS0, zS1, zTn, Nat.reduceAdd, Nat.reduceMul, Int.reduceToNat, zG0, zG1, zG2, zCa, zCi, zCb, zCs, zCf, zCn, zCt, zCm, zCp, Nat.add_zero]
            refine' DA_take (i := 5) rfl (by kernel_rfl) (fun _ _ _ _ h => (kp _ _ _ h).elim) rfl (QV_index (Ev.tmp rfl) (Ev.tmp rfl) (indexAt_array Try.underlying98 Try.sizeOf4 ?h0 ?h1)) ?_
            case h0 => omega
            case h1 => omega
            simp only [zS0, zS1, zTn, Nat.reduceAdd, Nat.reduceMul, Int.reduceToNat, zG0, zG1, zG2, zCa, zCi, zCb, zCs, zCf, zCn, zCt, zCm, zCp, Nat.add_zero]
            first
              | (refine' DA_take (i := 6) rfl (by kernel_rfl) (fun _ _ _ _ h => (kp _ _ _ h).elim) rfl (QV_load1 (Ev.tmp rfl) Try.isAgg4 ?hm ?hv) ?_; (case hm => (repeat (first | exact List.Mem.head _ | assumption | apply List.Mem.tail))); (case hv => (first | rfl | assumption)))
              | (refine' DA_take (i := 6) rfl (by kernel_rfl) (fun _ _ _ _ h => (kp _ _ _ h).elim) rfl (QV_loadR (Ev.tmp rfl) ?hp Try.isAgg4 ?hs ?hv) ?_; (case hs => (first | assumption | (refine' Sl.sub (by assumption) ?_; (repeat (first | with_reducible exact List.Sublist.refl _ | with_reducible exact List.nil_sublist _ | with_reducible apply List.Sublist.cons_cons | with_reducible apply List.Sublist.cons))))); (case hv => (first  | rfl | assumption)); (case hp => (first | rfl | omega)))
            simp only [zS0, zS1, zTn, Nat.reduceAdd, Nat.reduceMul, Int.reduceToNat, zG0, zG1, zG2, zCa, zCi, zCb, zCs, zCf, zCn, zCt, zCm, zCp, Nat.add_zero]
            refine DA_one (i := 3) (by kernel_rfl) ?_
            refine' DB_call (i := 3) rfl rfl en46 (call_fn (EvL.cons (Ev.tmp rfl) (EvL.cons (Ev.tmp rfl) EvL.nil)).evs) ((has_calls (l := la) (n := n) (hla.sub (by rw [List.nil_append]; exact (by (repeat (first | with_reducible exact List.Sublist.refl _ | with_reducible exact List.nil_sublist _ | with_reducible apply List.Sublist.cons_cons | with_reducible apply List.Sublist.cons))))) (canon_long sa))) ?_
            rintro _ _ ⟨rfl, rfl⟩
            refine ⟨[], rfl, ?_⟩
            simp only [List.nil_append, hmt]
            simp only [zS0, zS1, zTn, Nat.reduceAdd, Nat.reduceMul, Int.reduceToNat, zG0, zG1, zG2, zCa, zCi, zCb, zCs, zCf, zCn, zCt, zCm, zCp, Nat.add_zero]
            refine' DA_take (i := 7) rfl (by kernel_rfl) (fun _ _ _ _ h => (kp _ _ _ h).elim) rfl (QV_bin (r := .bool false) (Ev.tmp rfl) (Ev.tmp rfl) ?hr) ?_
            case hr => intro w; cases th n <;> (first | rfl | (go_simp; done) | (go_simp; rfl))
            simp only [zS0, zS1, zTn, Nat.reduceAdd, Nat.reduceMul, Int.reduceToNat, zG0, zG1, zG2, zCa, zCi, zCb, zCs, zCf, zCn, zCt, zCm, zCp, Nat.add_zero]
            refine DA_done (by kernel_rfl) ?_
            try simp only [List.nil_append, List.cons_append]
            refine hN25 _ _ ?_
            try clear hN25 N25
            refine HC_false rfl ?_
            refine HC_skip ?_
            try simp only [blockK]
            refine hN24 _ _ ?_
            try clear hN24 N24
            refine HC_region ?_
            refine' HL_q rfl rfl (QV_move (Ev.tmp rfl)) ?_
            simp only [zS0, zS1, zTn, Nat.reduceAdd, Nat.reduceMul, Int.reduceToNat, zG0, zG1, zG2, zCa, zCi, zCb, zCs, zCf, zCn, zCt, zCm, zCp, Nat.add_zero]
            refine' HL_q rfl rfl (QV_add (Ev.tmp rfl) Ev.const ?hr) ?_
            case hr => first | exact IntWalk.i64_in _ (by omega) | exact IntWalk.u64_in _ (by omega) | exact IntWalk.u8_in _ (by omega) | exact IntWalk.u32_in _ (by omega) | exact IntWalk.i64_quo _ _ (by omega) | exact IntWalk.u64_quo _ _ (by omega) | rfl
            simp only [zS0, zS1, zTn, Nat.reduceAdd, Nat.reduceMul, Int.reduceToNat, zG0, zG1, zG2, zCa, zCi, zCb, zCs, zCf, zCn, zCt, zCm, zCp, Nat.add_zero]
            refine' HL_q rfl rfl (QV_assign (Ev.tmp rfl)) ?_
            simp only [zS0, zS1, zTn, Nat.reduceAdd, Nat.reduceMul, Int.reduceToNat, zG0, zG1, zG2, zCa, zCi, zCb, zCs, zCf, zCn, zCt, zCm, zCp, Nat.add_zero]
            refine HL_nil ?_
            try simp only [thenK]
            refine' againL hL16 (Gets.cons rfl Gets.nil) ?lt ?ag2 ?le ⟨n + 1, rfl, rfl, by omega, rfl⟩
            case ag2 => (simp only [setL, List.set_cons_zero, List.set_cons_succ]; exact (Ag.keep (Ag.keep (Ag.any (Ag.keep (Ag.keep (Ag.keep (Ag.keep (Ag.keep (Ag.keep (Ag.keep (Ag.keep (Ag.keep (Ag.keep (Ag.keep (Ag.keep (Ag.keep (Ag.keep (Ag.keep (Ag.keep (Ag.keep (Ag.keep (Ag.keep (Ag.keep (Ag.keep (Ag.keep (Ag.keep (Ag.keep (Ag.keep (Ag.keep (Ag.keep (Ag.keep (Ag.keep (Ag.keep (Ag.keep (Ag.keep (Ag.keep (Ag.keep (Ag.keep (Ag.keep (Ag.keep (Ag.keep (Ag.keep (Ag.keep (Ag.keep (Ag.keep (Ag.keep (Ag.keep (Ag.keep (Ag.keep (Ag.keep (Ag.keep (Ag.keep (Ag.keep (Ag.keep (Ag.keep (Ag.keep (Ag.keep (Ag.keep (Ag.keep (Ag.keep (Ag.keep (Ag.keep (Ag.keep (Ag.keep (Ag.keep (Ag.keep (Ag.keep (Ag.keep (Ag.keep (Ag.keep (Ag.keep (Ag.keep (Ag.keep (Ag.any (Ag.any (Ag.any (Ag.any (Ag.any (Ag.any (Ag.any (Ag.any (Ag.any (Ag.any (Ag.any (Ag.any Ag.nil))))))))))))))))))))))))))))))))))))))))))))))))))))))))))))))))))))))))))))))))))))))
            case le => (first | with_reducible exact Le.refl | (refine Le.of ?_; (repeat (first | with_reducible exact Sp.refl | with_reducible exact Sp.nil | (apply Sp.pick; focus ((repeat (first | with_reducible exact Rm.head | with_reducible apply Rm.tail)); done)) | with_reducible refine Sp.drop ?_))))
            case lt => omega
          · refine HC_exit ?_
            simp only [thenK, blockK, reduceIte]
            refine hN20 _ _ ?_
            try clear hN20 N20
            refine HC_seq fun N27 hN27 => ?_
            refine HC_region ?_
            refine' HL_q rfl rfl (QV_move (Ev.tmp rfl)) ?_
            simp only [zS0, zS1, zTn, Nat.reduceAdd, Nat.reduceMul, Int.reduceToNat, zG0, zG1, zG2, zCa, zCi, zCb, zCs, zCf, zCn, zCt, zCm, zCp, decide_true, eq_self]
            refine' HL_q rfl rfl (QV_move (Ev.tmp rfl)) ?_
            simp only [zS0, zS1, zTn, Nat.reduceAdd, Nat.reduceMul, Int.reduceToNat, zG0, zG1, zG2, zCa, zCi, zCb, zCs, zCf, zCn, zCt, zCm, zCp, decide_true, eq_self]
            -- operation 2
            refine' HL_call rfl en38 (call_fn (EvL.cons (Ev.tmp rfl) (EvL.cons (Ev.tmp rfl) EvL.nil)).evs) ((same_calls (l := la) (m := la) (hla.sub (by (repeat (first | with_reducible exact List.Sublist.refl _ | with_reducible exact List.nil_sublist _ | with_reducible apply List.Sublist.cons_cons | with_reducible apply List.Sublist.cons)))) (hlb.sub (by (repeat (first | with_reducible exact List.Sublist.refl _ | with_reducible exact List.nil_sublist _ | with_reducible apply List.Sublist.cons_cons | with_reducible apply List.Sublist.cons)))) (canon_long sa) (canon_long sa))) ?_
            rintro _ _ ⟨rfl, rfl⟩
            simp only [zS0, zS1, zTn, Nat.reduceAdd, Nat.reduceMul, Int.reduceToNat, zG0, zG1, zG2, zCa, zCi, zCb, zCs, zCf, zCn, zCt, zCm, zCp, decide_true, eq_self]
            refine' HL_q rfl rfl (QV_assign (Ev.tmp rfl)) ?_
            simp only [zS0, zS1, zTn, Nat.reduceAdd, Nat.reduceMul, Int.reduceToNat, zG0, zG1, zG2, zCa, zCi, zCb, zCs, zCf, zCn, zCt, zCm, zCp, decide_true, eq_self]
            refine HL_nil ?_
            refine hN27 _ _ ?_
            try clear hN27 N27
            refine HC_ret ?_
            try simp only [thenK, blockK]
            refine kr _ _ ?_
            refine' Lv_tmp rfl rfl ?post ?le
            case post => exact ⟨rfl, rfl⟩
            case le => (first | with_reducible exact Le.refl | (refine Le.of ?_; (repeat (first | with_reducible exact Sp.refl | with_reducible exact Sp.nil | (apply Sp.pick; focus ((repeat (first | with_reducible exact Rm.head | with_reducible apply Rm.tail)); done)) | with_reducible refine Sp.drop ?_))))
end Go.Proofs.Ytcilfoicoambhaa
