import Derived.Test.YtcilfoicoambhaaRg2
set_option linter.unusedVariables false
set_option linter.unusedSimpArgs false
set_option maxRecDepth 20000
set_option maxHeartbeats 2000000
namespace Go.Proofs.Ytcilfoicoambhaa
open Go Go.Hw Go.RowKit

variable {w0 : World} {R : List Asn}

/-- Where two sets' turns stand. -/
structure BSt where
  fst : Bool
  snd : Bool
  on : Bool
  frm : Nat
  lst : Nat
  out : List Rg
def BSt.one (inF : Bool → Bool → Bool) (s : BSt) (k : Nat) : BSt :=
  if k ≠ s.lst ∧ s.on ≠ inF s.fst s.snd then (if s.on then { s with on := false, out := s.out ++ [(s.frm, s.lst - 1)] } else { s with on := true, frm := s.lst }) else s
def BSt.two (s : BSt) (t : Turn) : BSt := { s with lst := t.1, fst := if t.2.1 then t.2.2 else s.fst, snd := if t.2.1 then s.snd else t.2.2 }
def BSt.step (inF : Bool → Bool → Bool) (s : BSt) (t : Turn) : BSt := (s.one inF t.1).two t
def BSt.init : BSt := ⟨false, false, false, 0, 0, []⟩
def BSt.fin (s : BSt) : List Rg := if s.on then s.out ++ [(s.frm, s.lst - 1)] else s.out
def runB (inF : Bool → Bool → Bool) (ts : List Turn) : BSt := ts.foldl (BSt.step inF) BSt.init

theorem runB_snoc (inF : Bool → Bool → Bool) (p : List Turn) (t : Turn) : runB inF (p ++ [t]) = (runB inF p).step inF t := by simp [runB, List.foldl_append]
/-- What holds of it whatever came. -/
structure BSt.Ok (s : BSt) (n : Nat) : Prop where
  on : s.on = true → 1 ≤ s.lst
  len : s.out.length ≤ n
  top : s.lst ≤ 4611686018427387904
theorem ok_step {inF : Bool → Bool → Bool} {s : BSt} {n : Nat} {t : Turn} (h : s.Ok n) (ht : s.lst ≤ t.1) (hm : t.1 ≤ 4611686018427387904) : (s.step inF t).Ok (n + 1) := by
  obtain ⟨h1, h2, h3⟩ := h
  unfold BSt.step BSt.one
  split
  · rename_i hc
    split
    · exact ⟨fun h => (by cases h), by simp [BSt.two]; omega, hm⟩
    · exact ⟨fun _ => by simp only [BSt.two]; omega, by simp only [BSt.two]; omega, hm⟩
  · exact ⟨fun h => by have := h1 h; simp only [BSt.two]; omega, by simp only [BSt.two]; omega, hm⟩
theorem runB_lst (inF : Bool → Bool → Bool) (p : List Turn) (t : Turn) : (runB inF (p ++ [t])).lst = t.1 := by
  rw [runB_snoc]
  rfl
theorem runB_ok (inF : Bool → Bool → Bool) {ts : List Turn} (hs : Srt ts) (hb : ∀ t ∈ ts, t.1 ≤ 4611686018427387904) : ∀ (p : List Turn) (q : List Turn), ts = p ++ q → (runB inF p).Ok p.length ∧ ∀ t ∈ q, (runB inF p).lst ≤ t.1 := by
  intro p
  induction hn : p.length generalizing p with
  | zero =>
    intro q hq
    obtain rfl : p = [] := List.eq_nil_of_length_eq_zero hn
    exact ⟨⟨fun h => (by cases h), Nat.le_refl _, Nat.zero_le _⟩, fun t _ => Nat.zero_le _⟩
  | succ n ih =>
    intro q hq
    obtain ⟨p', t, rfl⟩ : ∃ p' t, p = p' ++ [t] := by
      rcases List.eq_nil_or_concat p with h | ⟨p', t, h⟩
      · subst h; cases hn
      · exact ⟨p', t, by simpa using h⟩
    have hn' : p'.length = n := by simpa using hn
    obtain ⟨h1, h2⟩ := ih p' hn' (t :: q) (by rw [hq]; simp)
    have h3 := h2 t (List.mem_cons_self ..)
    have htm : t.1 ≤ 4611686018427387904 := hb t (by rw [hq]; simp)
    refine ⟨?_, fun u hu => ?_⟩
    · rw [runB_snoc]; exact ok_step h1 h3 htm
    · rw [runB_lst]
      unfold Srt at hs
      rw [hq, List.append_assoc, List.pairwise_append] at hs
      have := (List.pairwise_cons.1 hs.2.1).1 u (by simpa using hu)
      exact this

theorem turns_calls {A B : Option Addr} {na nb ca cb : Nat} : CH Try.prog w0 99 #[.slice A na ca, .slice B nb cb] R fun v R' => ∃ ba bb, v = .func (.func 108) #[] #[.pointer (some ⟨ba, 0, none⟩), .pointer (some ⟨bb, 0, none⟩)] ∧
    R' = pt ba (.cells #[.slice A na ca] 34 (0, 0)) :: pt bb (.cells #[.slice B nb cb] 34 (0, 0)) :: R := by
  refine CH_of Try.func99 rfl fun K kn kr kp => ?_
  simp only [Try.ntmps99, List.size_toArray, List.length_cons, List.length_nil, Nat.reduceAdd, Nat.reduceSub, Array.replicate_succ, Array.replicate_zero, List.push_toArray, List.append_toArray, List.nil_append, List.cons_append]
  refine HC_seq fun N1 hN1 => ?_
  refine HC_region ?_
  refine' HL_s rfl rfl (SO_box (Ev.tmp rfl) rfl) ?_
  rintro _ _ ⟨g2, rfl, rfl⟩
  simp only [zS0, zS1, zTn, Nat.reduceAdd, Nat.reduceMul, Int.reduceToNat, zG0, zG1, zG2, zCa, zCi, zCb, zCs, zCf, zCn, zCt, zCm, zCp]
  refine' HL_s rfl rfl (SO_box (Ev.tmp rfl) rfl) ?_
  rintro _ _ ⟨g3, rfl, rfl⟩
  simp only [zS0, zS1, zTn, Nat.reduceAdd, Nat.reduceMul, Int.reduceToNat, zG0, zG1, zG2, zCa, zCi, zCb, zCs, zCf, zCn, zCt, zCm, zCp]
  refine' HL_q rfl rfl (QV_assign Ev.const) ?_
  simp only [zS0, zS1, zTn, Nat.reduceAdd, Nat.reduceMul, Int.reduceToNat, zG0, zG1, zG2, zCa, zCi, zCb, zCs, zCf, zCn, zCt, zCm, zCp]
  refine HL_nil ?_
  refine hN1 _ _ ?_
  try clear hN1 N1
  refine HC_seq fun N2 hN2 => ?_
  refine HC_region ?_
  refine' HL_q rfl rfl (QV_func (EvL.nil).evs ((EvL.cons (Ev.tmp rfl) (EvL.cons (Ev.tmp rfl) EvL.nil))).evs) ?_
  simp only [zS0, zS1, zTn, Nat.reduceAdd, Nat.reduceMul, Int.reduceToNat, zG0, zG1, zG2, zCa, zCi, zCb, zCs, zCf, zCn, zCt, zCm, zCp]
  refine' HL_q rfl rfl (QV_assign (Ev.tmp rfl)) ?_
  simp only [zS0, zS1, zTn, Nat.reduceAdd, Nat.reduceMul, Int.reduceToNat, zG0, zG1, zG2, zCa, zCi, zCb, zCs, zCf, zCn, zCt, zCm, zCp]
  refine HL_nil ?_
  refine hN2 _ _ ?_
  try clear hN2 N2
  refine HC_ret ?_
  try simp only [thenK, blockK]
  refine kr _ _ ?_
  refine' Lv_tmp rfl rfl ?post ?le
  case post => exact ⟨g2, g3, rfl, rfl⟩
  case le => (first | with_reducible exact Le.refl | (refine Le.of ?_; (repeat (first | with_reducible exact Sp.refl | with_reducible exact Sp.nil | (apply Sp.pick; focus ((repeat (first | with_reducible exact Rm.head | with_reducible apply Rm.tail)); done)) | with_reducible refine Sp.drop ?_))))
end Go.Proofs.Ytcilfoicoambhaa
