/- What two sets' turns come to: a set again, and whose numbers. Plain lists; no program. -/
import Derived.Test.YtcilfoicoambhaaRg3
set_option linter.unusedVariables false
set_option linter.unusedSimpArgs false
namespace Go.Proofs.Ytcilfoicoambhaa
open Go Go.Hw

def memR (n : Nat) (l : List Rg) : Bool := l.any fun r => decide (r.1 ≤ n) && decide (n ≤ r.2)
/-- A set. -/
structure Canon (l : List Rg) : Prop where
  gaps : l.Pairwise fun x y => x.2 + 1 < y.1
  ok : ∀ r ∈ l, r.1 ≤ r.2 ∧ r.2 ≤ 4611686018427387903
theorem Canon.tail {r : Rg} {l : List Rg} (h : Canon (r :: l)) : Canon l := ⟨(List.pairwise_cons.1 h.gaps).2, fun x hx => h.ok x (List.mem_cons_of_mem _ hx)⟩
theorem Canon.bounded {l : List Rg} (h : Canon l) : Bounded l := fun r hr => by have := h.ok r hr; omega
theorem memR_append (n : Nat) (l m : List Rg) : memR n (l ++ m) = (memR n l || memR n m) := by simp [memR, List.any_append]
theorem memR_iff {n : Nat} {l : List Rg} : memR n l = true ↔ ∃ r ∈ l, r.1 ≤ n ∧ n ≤ r.2 := by simp [memR]
theorem memR_false {n : Nat} {l : List Rg} (h : ∀ r ∈ l, ¬ (r.1 ≤ n ∧ n ≤ r.2)) : memR n l = false := by
  cases hm : memR n l with
  | false => rfl
  | true =>
    obtain ⟨r, hr, h'⟩ := memR_iff.1 hm
    exact absurd h' (h r hr)

/-- The flag of one list behind the turns up to n. -/
def vF (fl : Bool) (n : Nat) (b : Bool) (q : List Turn) : Bool := q.foldl (fun b t => if t.2.1 = fl ∧ t.1 ≤ n then t.2.2 else b) b
theorem vF_cons (fl : Bool) (n : Nat) (b : Bool) (t : Turn) (q : List Turn) : vF fl n b (t :: q) = vF fl n (if t.2.1 = fl ∧ t.1 ≤ n then t.2.2 else b) q := rfl
theorem vF_far {fl : Bool} {n : Nat} {b : Bool} {q : List Turn} (h : ∀ t ∈ q, n < t.1) : vF fl n b q = b := by
  induction q generalizing b with
  | nil => rfl
  | cons t q ih =>
    have := h t (List.mem_cons_self ..)
    rw [vF_cons, if_neg (by omega)]
    exact ih (fun t ht => h t (List.mem_cons_of_mem _ ht))
theorem vF_filter (fl : Bool) (n : Nat) (b : Bool) (q : List Turn) : vF fl n b q = vF fl n b (q.filter fun t => t.2.1 == fl) := by
  induction q generalizing b with
  | nil => rfl
  | cons t q ih =>
    rw [vF_cons, ih]
    by_cases h : t.2.1 = fl
    · rw [List.filter_cons_of_pos (by simpa using h), vF_cons]
    · rw [List.filter_cons_of_neg (by simpa using h), if_neg (by simp [h])]
theorem tOf_mem {fl : Bool} {l : List Rg} {t : Turn} (h : t ∈ tOf fl l) : ∃ r ∈ l, (t = (r.1, fl, true) ∨ t = (r.2 + 1, fl, false)) := by
  obtain ⟨r, hr, h⟩ := List.mem_flatMap.1 h
  exact ⟨r, hr, by simpa using h⟩
theorem tOf_cons (fl : Bool) (r : Rg) (l : List Rg) : tOf fl (r :: l) = (r.1, fl, true) :: (r.2 + 1, fl, false) :: tOf fl l := rfl
theorem tOf_strict {fl : Bool} {l : List Rg} (h : Canon l) : (tOf fl l).Pairwise fun x y => x.1 < y.1 := by
  induction l with
  | nil => exact List.Pairwise.nil
  | cons r l ih =>
    have h1 := h.ok r (List.mem_cons_self ..)
    have h2 := (List.pairwise_cons.1 h.gaps).1
    have h3 : ∀ t ∈ tOf fl l, r.2 + 1 < t.1 := by
      intro t ht
      obtain ⟨x, hx, rfl | rfl⟩ := tOf_mem ht
      · exact h2 x hx
      · have := h2 x hx; have := h.ok x (List.mem_cons_of_mem _ hx); simp only; omega
    rw [tOf_cons]
    refine List.pairwise_cons.2 ⟨fun t ht => ?_, List.pairwise_cons.2 ⟨fun t ht => h3 t ht, ih h.tail⟩⟩
    rcases List.mem_cons.1 ht with rfl | ht
    · simp only; omega
    · have := h3 t ht; simp only; omega
theorem vF_tOf {fl : Bool} {l : List Rg} (h : Canon l) (n : Nat) : vF fl n false (tOf fl l) = memR n l := by
  induction l with
  | nil => rfl
  | cons r l ih =>
    have h1 := h.ok r (List.mem_cons_self ..)
    have h2 := (List.pairwise_cons.1 h.gaps).1
    have e : memR n (r :: l) = ((decide (r.1 ≤ n) && decide (n ≤ r.2)) || memR n l) := rfl
    rw [tOf_cons, vF_cons, vF_cons, e]
    simp only [true_and]
    by_cases c1 : r.2 + 1 ≤ n
    · rw [if_pos c1, ih h.tail]
      simp [show ¬ n ≤ r.2 by omega]
    · rw [if_neg c1]
      have hf : ∀ t ∈ tOf fl l, n < t.1 := by
        intro t ht
        obtain ⟨x, hx, rfl | rfl⟩ := tOf_mem ht
        · have := h2 x hx; simp only; omega
        · have := h2 x hx; have := h.ok x (List.mem_cons_of_mem _ hx); simp only; omega
      rw [vF_far hf, memR_false (fun x hx => by have := h2 x hx; omega)]
      by_cases c2 : r.1 ≤ n
      · simp [c2, show n ≤ r.2 by omega]
      · simp [c2]
theorem strict_inj {l : List Turn} (h : l.Pairwise fun x y => x.1 < y.1) : ∀ a ∈ l, ∀ b ∈ l, a.1 = b.1 → a = b := by
  induction l with
  | nil => intro a ha; cases ha
  | cons x l ih =>
    obtain ⟨h1, h2⟩ := List.pairwise_cons.1 h
    intro a ha b hb e
    rcases List.mem_cons.1 ha with rfl | ha' <;> rcases List.mem_cons.1 hb with rfl | hb'
    · rfl
    · have := h1 b hb'; omega
    · have := h1 a ha'; omega
    · exact ih h2 a ha' b hb' e
theorem filter_tOf_same (fl : Bool) (l : List Rg) : (tOf fl l).filter (fun t => t.2.1 == fl) = tOf fl l := by
  rw [List.filter_eq_self]
  intro t ht
  obtain ⟨r, _, rfl | rfl⟩ := tOf_mem ht <;> simp
theorem filter_tOf_other {fl fl' : Bool} (h : fl ≠ fl') (l : List Rg) : (tOf fl l).filter (fun t => t.2.1 == fl') = [] := by
  rw [List.filter_eq_nil_iff]
  intro t ht
  obtain ⟨r, _, rfl | rfl⟩ := tOf_mem ht <;> simpa using h
theorem filter_turns (fl : Bool) (xa xb : List Rg) : (turnsOf xa xb).filter (fun t => t.2.1 == fl) = tOf fl (if fl then xa else xb) := by
  unfold turnsOf
  rw [List.filter_append]
  cases fl
  · rw [filter_tOf_other (by decide), filter_tOf_same]; simp
  · rw [filter_tOf_other (fl := false) (by decide), filter_tOf_same]; simp
theorem sorted_filter {ts : List Turn} {xa xb : List Rg} (hp : ts.Perm (turnsOf xa xb)) (hs : Srt ts) (fl : Bool) (hc : Canon (if fl then xa else xb)) : ts.filter (fun t => t.2.1 == fl) = tOf fl (if fl then xa else xb) := by
  have h1 := hp.filter (fun t => t.2.1 == fl)
  rw [filter_turns] at h1
  refine List.Perm.eq_of_pairwise (le := fun x y : Turn => x.1 ≤ y.1) (fun a b ha hb hab hba => ?_) (List.Pairwise.filter _ hs) ((tOf_strict hc).imp fun h => Nat.le_of_lt h) h1
  exact strict_inj (tOf_strict hc) a (h1.mem_iff.1 ha) b hb (Nat.le_antisymm hab hba)
theorem vF_set {ts : List Turn} {xa xb : List Rg} (hp : ts.Perm (turnsOf xa xb)) (hs : Srt ts) (fl : Bool) (hc : Canon (if fl then xa else xb)) (n : Nat) : vF fl n false ts = memR n (if fl then xa else xb) := by
  rw [vF_filter, sorted_filter hp hs fl hc, vF_tOf hc]

/-- What holds ahead of the turns that are left. -/
structure BInv (inF : Bool → Bool → Bool) (tr : Nat → Bool) (s : BSt) (q : List Turn) : Prop where
  ahead : ∀ n, n < s.lst → (memR n s.out || (s.on && decide (s.frm ≤ n))) = tr n
  behind : ∀ n, s.lst ≤ n → tr n = inF (vF true n s.fst q) (vF false n s.snd q)
  gaps : s.out.Pairwise fun x y => x.2 + 1 < y.1
  ok : ∀ r ∈ s.out, r.1 ≤ r.2 ∧ r.2 + 1 ≤ s.lst
  isOn : s.on = true → s.frm < s.lst ∧ ∀ r ∈ s.out, r.2 + 1 < s.frm
  isOff : s.on = false → ∀ r ∈ s.out, r.2 + 1 < s.lst
theorem binv_step {inF : Bool → Bool → Bool} {tr : Nat → Bool} {s : BSt} {t : Turn} {q : List Turn} (h : BInv inF tr s (t :: q)) (hlt : s.lst ≤ t.1) (hq : ∀ u ∈ q, t.1 ≤ u.1) : BInv inF tr (s.step inF t) q := by
  obtain ⟨h1, h2, h3, h4, h5, h6⟩ := h
  obtain ⟨a, b, on, frm, lst, out⟩ := s
  obtain ⟨tk, tf, ton⟩ := t
  simp only at *
  have hb : ∀ n, tk ≤ n → tr n = inF (vF true n (if tf = true then ton else a) q) (vF false n (if tf = true then b else ton) q) := by
    intro n hn
    rw [h2 n (by omega), vF_cons, vF_cons]
    cases tf <;> simp [hn]
  by_cases hk : tk = lst
  · subst hk
    have e : BSt.step inF ⟨a, b, on, frm, tk, out⟩ (tk, tf, ton) = ⟨if tf = true then ton else a, if tf = true then b else ton, on, frm, tk, out⟩ := by simp [BSt.step, BSt.one, BSt.two]
    rw [e]
    exact ⟨h1, hb, h3, h4, h5, h6⟩
  · have hlt' : lst < tk := by omega
    have hmid : ∀ n, lst ≤ n → n < tk → tr n = inF a b := by
      intro n x y
      rw [h2 n x, vF_far (fun u hu => ?_), vF_far (fun u hu => ?_)]
      all_goals
        rcases List.mem_cons.1 hu with rfl | hu
        · exact y
        · have := hq u hu; omega
    by_cases hw : on = inF a b
    · have e : BSt.step inF ⟨a, b, on, frm, lst, out⟩ (tk, tf, ton) = ⟨if tf = true then ton else a, if tf = true then b else ton, on, frm, tk, out⟩ := by simp [BSt.step, BSt.one, BSt.two, hw]
      rw [e]
      refine ⟨fun n hn => ?_, hb, h3, fun r hr => ?_, fun ho => ?_, fun ho r hr => ?_⟩
      · simp only at hn ⊢
        rcases Nat.lt_or_ge n lst with hn' | hn'
        · exact h1 n hn'
        · rw [hmid n hn' hn, memR_false (fun r hr => by have := h4 r hr; omega), ← hw]
          cases on with
          | false => rfl
          | true => have := (h5 rfl).1; simp; omega
      · have := h4 r hr; simp only; omega
      · obtain ⟨x, y⟩ := h5 ho; exact ⟨by simp only; omega, y⟩
      · have := h6 ho r hr; simp only; omega
    · cases on with
      | true =>
        have hw' : inF a b = false := by cases h : inF a b <;> simp_all
        obtain ⟨x, y⟩ := h5 rfl
        have e : BSt.step inF ⟨a, b, true, frm, lst, out⟩ (tk, tf, ton) = ⟨if tf = true then ton else a, if tf = true then b else ton, false, frm, tk, out ++ [(frm, lst - 1)]⟩ := by simp [BSt.step, BSt.one, BSt.two, hk, hw']
        rw [e]
        refine ⟨fun n hn => ?_, hb, ?_, fun r hr => ?_, fun ho => (by cases ho), fun ho r hr => ?_⟩
        · simp only at hn ⊢
          rw [memR_append]
          rcases Nat.lt_or_ge n lst with hn' | hn'
          · rw [← h1 n hn']
            simp [memR, show n ≤ lst - 1 by omega]
          · rw [hmid n hn' hn, hw', memR_false (fun r hr => by have := h4 r hr; omega)]
            simp [memR]; omega
        · rw [List.pairwise_append]
          exact ⟨h3, List.pairwise_singleton _ _, fun r hr z hz => by rw [List.mem_singleton] at hz; subst hz; exact y r hr⟩
        · rcases List.mem_append.1 hr with hr | hr
          · have := h4 r hr; simp only; omega
          · rw [List.mem_singleton] at hr; subst hr; simp only; omega
        · rcases List.mem_append.1 hr with hr | hr
          · have := h4 r hr; simp only; omega
          · rw [List.mem_singleton] at hr; subst hr; simp only; omega
      | false =>
        have hw' : inF a b = true := by cases h : inF a b <;> simp_all
        have y := h6 rfl
        have e : BSt.step inF ⟨a, b, false, frm, lst, out⟩ (tk, tf, ton) = ⟨if tf = true then ton else a, if tf = true then b else ton, true, lst, tk, out⟩ := by simp [BSt.step, BSt.one, BSt.two, hk, hw']
        rw [e]
        refine ⟨fun n hn => ?_, hb, h3, fun r hr => ?_, fun ho => ⟨hlt', y⟩, fun ho => (by cases ho)⟩
        · simp only at hn ⊢
          rcases Nat.lt_or_ge n lst with hn' | hn'
          · rw [← h1 n hn']
            simp [show ¬ lst ≤ n by omega]
          · rw [hmid n hn' hn, hw']
            simp [hn']
        · have := h4 r hr; simp only; omega
theorem binv_all {inF : Bool → Bool → Bool} {tr : Nat → Bool} {ts : List Turn} (hs : Srt ts) (h0 : ∀ n, tr n = inF (vF true n false ts) (vF false n false ts)) (hb : ∀ t ∈ ts, t.1 ≤ 4611686018427387904) :
    ∀ (q p : List Turn), ts = p ++ q → BInv inF tr (runB inF p) q → BInv inF tr (runB inF ts) [] := by
  intro q
  induction q with
  | nil => intro p hp h; rw [List.append_nil] at hp; subst hp; exact h
  | cons t q ih =>
    intro p hp h
    obtain ⟨_, hle⟩ := runB_ok inF hs hb p (t :: q) hp
    refine ih (p ++ [t]) (by rw [hp]; simp) ?_
    rw [runB_snoc]
    refine binv_step h (hle t (List.mem_cons_self ..)) (fun u hu => ?_)
    unfold Srt at hs
    rw [hp, List.pairwise_append] at hs
    exact (List.pairwise_cons.1 hs.2.1).1 u hu

theorem both_law {inF : Bool → Bool → Bool} (hF : inF false false = false) {ts : List Turn} {xa xb : List Rg} (ha : Canon xa) (hb : Canon xb) (hp : ts.Perm (turnsOf xa xb)) (hs : Srt ts) (hbt : ∀ t ∈ ts, t.1 ≤ 4611686018427387904) :
    Canon (runB inF ts).fin ∧ ∀ n, memR n (runB inF ts).fin = inF (memR n xa) (memR n xb) := by
  have hA : ∀ n, vF true n false ts = memR n xa := fun n => vF_set hp hs true ha n
  have hB : ∀ n, vF false n false ts = memR n xb := fun n => vF_set hp hs false hb n
  have inv := binv_all (inF := inF) (tr := fun n => inF (memR n xa) (memR n xb)) hs (fun n => by rw [hA, hB]) hbt ts [] rfl
    ⟨fun n hn => absurd hn (Nat.not_lt_zero _), fun n _ => by rw [← hA, ← hB]; rfl, List.Pairwise.nil, fun r hr => (by cases hr), fun h => (by cases h), fun _ r hr => (by cases hr)⟩
  have hok := (runB_ok inF hs hbt ts [] (by simp)).1
  obtain ⟨o1, _, o3⟩ := hok
  obtain ⟨i1, i2, i3, i4, i5, i6⟩ := inv
  have hend : ∀ n, (runB inF ts).lst ≤ n → inF (memR n xa) (memR n xb) = false := by
    intro n hn
    have e1 := i2 n hn
    have e2 := i2 (max (runB inF ts).lst 4611686018427387904) (Nat.le_max_left _ _)
    have far : ∀ l, Canon l → memR (max (runB inF ts).lst 4611686018427387904) l = false := fun l hl => memR_false fun r hr => by have := hl.ok r hr; omega
    rw [far xa ha, far xb hb, hF] at e2
    rw [e1]
    exact e2.symm
  generalize runB inF ts = s at *
  unfold BSt.fin
  split
  · rename_i hon
    obtain ⟨x, y⟩ := i5 hon
    refine ⟨⟨?_, fun r hr => ?_⟩, fun n => ?_⟩
    · rw [List.pairwise_append]
      exact ⟨i3, List.pairwise_singleton _ _, fun r hr z hz => by rw [List.mem_singleton] at hz; subst hz; exact y r hr⟩
    · rcases List.mem_append.1 hr with hr | hr
      · have := i4 r hr; omega
      · rw [List.mem_singleton] at hr; subst hr; simp only; omega
    · rw [memR_append]
      rcases Nat.lt_or_ge n s.lst with hn | hn
      · have h := i1 n hn
        rw [← h, hon]
        simp [memR, show n ≤ s.lst - 1 by omega]
      · rw [hend n hn, memR_false (fun r hr => by have := i4 r hr; omega)]
        simp [memR]; omega
  · rename_i hon
    have hon' : s.on = false := by simpa using hon
    refine ⟨⟨i3, fun r hr => ?_⟩, fun n => ?_⟩
    · have := i4 r hr; omega
    · rcases Nat.lt_or_ge n s.lst with hn | hn
      · have h := i1 n hn
        rw [← h, hon']
        simp
      · rw [hend n hn, memR_false (fun r hr => by have := i4 r hr; omega)]

/-- A set is told by its numbers. -/
theorem canon_ext : ∀ {l m : List Rg}, Canon l → Canon m → (∀ n, memR n l = memR n m) → l = m
  | [], [], _, _, _ => rfl
  | [], r :: m, _, hm, h => by
    have h1 := hm.ok r (List.mem_cons_self ..)
    have := h r.1
    rw [memR_iff.2 ⟨r, List.mem_cons_self .., Nat.le_refl _, h1.1⟩] at this
    cases this
  | r :: l, [], hl, _, h => by
    have h1 := hl.ok r (List.mem_cons_self ..)
    have := h r.1
    rw [memR_iff.2 ⟨r, List.mem_cons_self .., Nat.le_refl _, h1.1⟩] at this
    cases this
  | r :: l, x :: m, hl, hm, h => by
    have a1 := hl.ok r (List.mem_cons_self ..)
    have b1 := hm.ok x (List.mem_cons_self ..)
    have a2 := (List.pairwise_cons.1 hl.gaps).1
    have b2 := (List.pairwise_cons.1 hm.gaps).1
    have inL : ∀ n, memR n (r :: l) = true → r.1 ≤ n ∧ (n ≤ r.2 ∨ r.2 + 1 < n) := by
      intro n hn
      obtain ⟨z, hz, h1, h2⟩ := memR_iff.1 hn
      rcases List.mem_cons.1 hz with rfl | hz
      · exact ⟨h1, .inl h2⟩
      · have := a2 z hz; exact ⟨by omega, .inr (by omega)⟩
    have inM : ∀ n, memR n (x :: m) = true → x.1 ≤ n ∧ (n ≤ x.2 ∨ x.2 + 1 < n) := by
      intro n hn
      obtain ⟨z, hz, h1, h2⟩ := memR_iff.1 hn
      rcases List.mem_cons.1 hz with rfl | hz
      · exact ⟨h1, .inl h2⟩
      · have := b2 z hz; exact ⟨by omega, .inr (by omega)⟩
    have hasL : ∀ n, r.1 ≤ n → n ≤ r.2 → memR n (r :: l) = true := fun n p q => memR_iff.2 ⟨r, List.mem_cons_self .., p, q⟩
    have hasM : ∀ n, x.1 ≤ n → n ≤ x.2 → memR n (x :: m) = true := fun n p q => memR_iff.2 ⟨x, List.mem_cons_self .., p, q⟩
    have e1 : r.1 = x.1 := by
      have h1 := (inM r.1 (by rw [← h]; exact hasL _ (Nat.le_refl _) a1.1)).1
      have h2 := (inL x.1 (by rw [h]; exact hasM _ (Nat.le_refl _) b1.1)).1
      omega
    have e2 : r.2 = x.2 := by
      rcases Nat.lt_trichotomy r.2 x.2 with c | c | c
      · have := (inL (r.2 + 1) (by rw [h]; exact hasM _ (by omega) (by omega))).2; omega
      · exact c
      · have := (inM (x.2 + 1) (by rw [← h]; exact hasL _ (by omega) (by omega))).2; omega
    have e : r = x := Prod.ext e1 e2
    subst e
    refine congrArg (r :: ·) (canon_ext hl.tail hm.tail fun n => ?_)
    have hn := h n
    by_cases c : r.1 ≤ n ∧ n ≤ r.2
    · rw [memR_false (fun z hz => by have := a2 z hz; omega), memR_false (fun z hz => by have := b2 z hz; omega)]
    · have f1 : ∀ k : List Rg, memR n (r :: k) = memR n k := fun k => by
        show ((decide (r.1 ≤ n) && decide (n ≤ r.2)) || memR n k) = memR n k
        have : (decide (r.1 ≤ n) && decide (n ≤ r.2)) = false := by simp; omega
        rw [this, Bool.false_or]
      rwa [f1, f1] at hn
end Go.Proofs.Ytcilfoicoambhaa
