/- A merge of two sorted halves of a row in place, as functions of the index: plain facts; no program. -/
import Derived.Test.YtcilfoicoambhaaFwArr
set_option linter.unusedVariables false
namespace Go.Proofs.Ytcilfoicoambhaa
open Go Go.Hw

section
variable {α : Type} (key : α → Nat)
def SrtF (a b : Nat) (f : Nat → α) : Prop := ∀ i j, a ≤ i → i < j → j < b → key (f i) ≤ key (f j)
def InF (a b : Nat) (f g : Nat → α) : Prop := (∀ k, (k < a ∨ b ≤ k) → g k = f k) ∧ (∀ k, a ≤ k → k < b → ∃ k', a ≤ k' ∧ k' < b ∧ g k = f k')
def PmF (n : Nat) (f g : Nat → α) : Prop := ((List.range n).map g).Perm ((List.range n).map f)
def swF (f : Nat → α) (i j : Nat) : Nat → α := fun k => if k = i then f j else if k = j then f i else f k
variable {key} {a b c i j m n : Nat} {f g h : Nat → α}

theorem InF.refl : InF a b f f := ⟨fun _ _ => rfl, fun k h1 h2 => ⟨k, h1, h2, rfl⟩⟩
theorem InF.trans (h1 : InF a b f g) (h2 : InF a b g h) : InF a b f h := by
  refine ⟨fun k hk => (h2.1 k hk).trans (h1.1 k hk), fun k ha hb => ?_⟩
  obtain ⟨k1, x1, x2, e1⟩ := h2.2 k ha hb
  obtain ⟨k2, y1, y2, e2⟩ := h1.2 k1 x1 x2
  exact ⟨k2, y1, y2, e1.trans e2⟩
theorem InF.mono {a' b' : Nat} (h1 : InF a b f g) (ha : a' ≤ a) (hb : b ≤ b') : InF a' b' f g := by
  refine ⟨fun k hk => h1.1 k (by omega), fun k hk hk' => ?_⟩
  by_cases hin : a ≤ k ∧ k < b
  · obtain ⟨k1, x1, x2, e1⟩ := h1.2 k hin.1 hin.2
    exact ⟨k1, by omega, by omega, e1⟩
  · exact ⟨k, hk, hk', h1.1 k (by omega)⟩
theorem PmF.refl : PmF n f f := List.Perm.refl _
theorem PmF.trans (h1 : PmF n f g) (h2 : PmF n g h) : PmF n f h := List.Perm.trans h2 h1

theorem swF_swF_self : swF (swF f i j) i j = f := by
  funext k
  simp only [swF]
  split
  · rename_i h; subst h; split <;> simp_all
  · split
    · rename_i h1 h2; subst h2; simp_all
    · rfl
theorem PmF_sw (hi : i < n) (hj : j < n) : PmF n f (swF f i j) := by
  have e : (List.range n).map (swF f i j) = ((List.range n).map (swF id i j)).map f := by
    rw [List.map_map]
    refine List.map_congr_left fun k _ => ?_
    simp only [swF, Function.comp, id]
    split
    · rfl
    · split <;> rfl
  unfold PmF
  rw [e]
  refine List.Perm.map f ?_
  have hinj : ∀ x y : Nat, x ≠ y → swF id i j x ≠ swF id i j y := by
    intro x y hxy
    simp only [swF, id]
    split <;> split <;> (try split) <;> (try split) <;> omega
  rw [List.perm_ext_iff_of_nodup (List.Pairwise.map (swF id i j) hinj List.nodup_range) List.nodup_range]
  intro x
  rw [List.mem_map, List.mem_range]
  constructor
  · rintro ⟨y, hy, rfl⟩
    have := List.mem_range.1 hy
    simp only [swF, id]
    split
    · exact hj
    · split
      · exact hi
      · exact this
  · intro hx
    refine ⟨swF id i j x, ?_, ?_⟩
    · rw [List.mem_range]
      simp only [swF, id]
      split
      · exact hj
      · split
        · exact hi
        · exact hx
    · simp only [swF, id]; split <;> (try split) <;> (try split) <;> (try split) <;> omega
theorem InF_sw (hi : a ≤ i ∧ i < b) (hj : a ≤ j ∧ j < b) : InF a b f (swF f i j) := by
  refine ⟨fun k hk => ?_, fun k h1 h2 => ?_⟩
  · simp only [swF]
    rw [if_neg (by omega), if_neg (by omega)]
  · simp only [swF]
    split
    · exact ⟨j, hj.1, hj.2, rfl⟩
    · split
      · exact ⟨i, hi.1, hi.2, rfl⟩
      · exact ⟨k, h1, h2, rfl⟩
theorem swF_eq (f : Nat → α) (i j : Nat) : upd (upd f i (f j)) j (f i) = swF f i j := by
  funext k
  simp only [upd, swF]
  by_cases h1 : k = j
  · subst h1
    by_cases h2 : k = i
    · subst h2; simp
    · simp [h2]
  · simp [h1]

/-- Two ranges of n places each are exchanged. -/
def swR (f : Nat → α) (a b n : Nat) : Nat → α := fun k => if a ≤ k ∧ k < a + n then f (b + (k - a)) else if b ≤ k ∧ k < b + n then f (a + (k - b)) else f k
theorem swR_zero (f : Nat → α) (a b : Nat) : swR f a b 0 = f := by
  funext k; simp only [swR]; rw [if_neg (by omega), if_neg (by omega)]
theorem swR_succ (f : Nat → α) {a b n : Nat} (h : a + n < b) : swF (swR f a b n) (a + n) (b + n) = swR f a b (n + 1) := by
  funext k
  simp only [swR, swF]
  rcases Nat.lt_trichotomy k (a + n) with h1 | h1 | h1
  · rw [if_neg (by omega), if_neg (by omega)]
    by_cases h2 : a ≤ k
    · rw [if_pos (by omega), if_pos (by omega)]
    · rw [if_neg (by omega), if_neg (by omega), if_neg (by omega), if_neg (by omega)]
  · subst h1
    rw [if_pos rfl, if_neg (by omega), if_neg (by omega), if_pos (by omega)]
    congr 1; omega
  · rw [if_neg (by omega), if_neg (show ¬ (a ≤ k ∧ k < a + n) by omega), if_neg (show ¬ (a ≤ k ∧ k < a + (n + 1)) by omega)]
    by_cases h2 : k = b + n
    · subst h2
      rw [if_pos rfl, if_neg (by omega), if_neg (by omega), if_pos (by omega)]
      congr 1; omega
    · rw [if_neg h2]
      by_cases h3 : b ≤ k ∧ k < b + n
      · rw [if_pos h3, if_pos (by omega)]
      · rw [if_neg h3, if_neg (by omega)]
theorem swR_sw (f : Nat → α) {a b n : Nat} (h : a + n < b) : upd (upd (swR f a b n) (a + n) (swR f a b n (b + n))) (b + n) (swR f a b n (a + n)) = swR f a b (n + 1) := by
  rw [swF_eq, swR_succ f h]

/-- The places from a to m and those from m to b are exchanged. -/
def rotF (f : Nat → α) (a m b : Nat) : Nat → α := fun k => if k < a then f k else if k < a + (b - m) then f (m + (k - a)) else if k < b then f (a + (k - (a + (b - m)))) else f k
theorem rot_more (f : Nat → α) {m i j : Nat} (hij : j < i) (him : i ≤ m) : rotF (swR f (m - i) m j) (m - (i - j)) m (m + j) = rotF f (m - i) m (m + j) := by
  funext k
  simp only [rotF, swR]
  (repeat' split) <;> first | rfl | (congr 1; omega)
theorem rot_less (f : Nat → α) {m i j : Nat} (hij : i < j) (him : i ≤ m) : rotF (swR f (m - i) (m + j - i) i) (m - i) m (m + (j - i)) = rotF f (m - i) m (m + j) := by
  funext k
  simp only [rotF, swR]
  (repeat' split) <;> first | rfl | (congr 1; omega)
theorem rot_same (f : Nat → α) {m i : Nat} (him : i ≤ m) : swR f (m - i) m i = rotF f (m - i) m (m + i) := by
  funext k
  simp only [rotF, swR]
  (repeat' split) <;> first | rfl | (congr 1; omega)
theorem rot_none (f : Nat → α) {a m b : Nat} (h : a = m ∨ m = b) (hab : a ≤ m ∧ m ≤ b) : rotF f a m b = f := by
  funext k
  simp only [rotF]
  rcases h with rfl | rfl
  · by_cases h1 : k < a
    · rw [if_pos h1]
    · rw [if_neg h1]
      by_cases h2 : k < b
      · rw [if_pos (by omega)]; congr 1; omega
      · rw [if_neg (by omega), if_neg h2]
  · by_cases h1 : k < a
    · rw [if_pos h1]
    · rw [if_neg h1, if_neg (by omega)]
      by_cases h2 : k < m
      · rw [if_pos h2]; congr 1; omega
      · rw [if_neg h2]

/-! ### the merge -/
/-- What the search for the place to turn at has found. -/
structure Cut (key : α → Nat) (f : Nat → α) (a m b s e : Nat) : Prop where
  lo : a ≤ s
  sm : s ≤ m
  me : m ≤ e
  eb : e ≤ b
  sum : s + e = (a + b) / 2 + m
  left : a < s → e < b → key (f (s - 1)) ≤ key (f e)
  right : s < m → m < e → key (f (e - 1)) ≤ key (f s)

theorem merged {a m b s e : Nat} (ham : a ≤ m) (hmb : m ≤ b) (h1 : SrtF key a m f) (h2 : SrtF key m b f) (c : Cut key f a m b s e) {g1 g2 : Nat → α}
    (i1 : InF a ((a + b) / 2) (rotF f s m e) g1) (s1 : SrtF key a ((a + b) / 2) g1) (i2 : InF ((a + b) / 2) b g1 g2) (s2 : SrtF key ((a + b) / 2) b g2) : InF a b f g2 ∧ SrtF key a b g2 := by
  obtain ⟨c1, c2, c3, c4, c5, c6, c7⟩ := c
  have hmid : s + (e - m) = (a + b) / 2 := by omega
  have hle : ∀ i j, a ≤ i → i ≤ j → j < m → key (f i) ≤ key (f j) := fun i j x y z => by
    rcases Nat.eq_or_lt_of_le y with rfl | y
    · exact Nat.le_refl _
    · exact h1 i j x y z
  have hle2 : ∀ i j, m ≤ i → i ≤ j → j < b → key (f i) ≤ key (f j) := fun i j x y z => by
    rcases Nat.eq_or_lt_of_le y with rfl | y
    · exact Nat.le_refl _
    · exact h2 i j x y z
  have r1 : ∀ k, a ≤ k → k < (a + b) / 2 → ∃ k', rotF f s m e k = f k' ∧ ((a ≤ k' ∧ k' < s) ∨ (m ≤ k' ∧ k' < e)) := by
    intro k x y
    simp only [rotF]
    by_cases h : k < s
    · rw [if_pos h]; exact ⟨k, rfl, .inl ⟨x, h⟩⟩
    · rw [if_neg h, if_pos (by omega)]; exact ⟨_, rfl, .inr ⟨by omega, by omega⟩⟩
  have r2 : ∀ k, (a + b) / 2 ≤ k → k < b → ∃ k', rotF f s m e k = f k' ∧ ((s ≤ k' ∧ k' < m) ∨ (e ≤ k' ∧ k' < b)) := by
    intro k x y
    simp only [rotF]
    rw [if_neg (by omega), if_neg (by omega)]
    by_cases h : k < e
    · rw [if_pos h]; exact ⟨_, rfl, .inl ⟨by omega, by omega⟩⟩
    · rw [if_neg h]; exact ⟨k, rfl, .inr ⟨by omega, y⟩⟩
  have part : ∀ k1 k2, ((a ≤ k1 ∧ k1 < s) ∨ (m ≤ k1 ∧ k1 < e)) → ((s ≤ k2 ∧ k2 < m) ∨ (e ≤ k2 ∧ k2 < b)) → key (f k1) ≤ key (f k2) := by
    rintro k1 k2 (h | h) (h' | h')
    · exact hle k1 k2 (by omega) (by omega) (by omega)
    · exact Nat.le_trans (hle k1 (s - 1) (by omega) (by omega) (by omega)) (Nat.le_trans (c6 (by omega) (by omega)) (hle2 e k2 (by omega) (by omega) (by omega)))
    · exact Nat.le_trans (hle2 k1 (e - 1) (by omega) (by omega) (by omega)) (Nat.le_trans (c7 (by omega) (by omega)) (hle s k2 (by omega) (by omega) (by omega)))
    · exact hle2 k1 k2 (by omega) (by omega) (by omega)
  have q1 : ∀ k, a ≤ k → k < (a + b) / 2 → ∃ k', g2 k = f k' ∧ ((a ≤ k' ∧ k' < s) ∨ (m ≤ k' ∧ k' < e)) := by
    intro k x y
    obtain ⟨k1, y1, y2, e1⟩ := i1.2 k x y
    obtain ⟨k2, e2, h⟩ := r1 k1 y1 y2
    exact ⟨k2, (i2.1 k (by omega)).trans (e1.trans e2), h⟩
  have q2 : ∀ k, (a + b) / 2 ≤ k → k < b → ∃ k', g2 k = f k' ∧ ((s ≤ k' ∧ k' < m) ∨ (e ≤ k' ∧ k' < b)) := by
    intro k x y
    obtain ⟨k1, y1, y2, e1⟩ := i2.2 k x y
    obtain ⟨k2, e2, h⟩ := r2 k1 y1 y2
    exact ⟨k2, e1.trans ((i1.1 k1 (by omega)).trans e2), h⟩
  refine ⟨⟨fun k hk => ?_, fun k x y => ?_⟩, ?_⟩
  · rw [i2.1 k (by omega), i1.1 k (by omega)]
    simp only [rotF]
    by_cases h : k < s
    · rw [if_pos h]
    · rw [if_neg h, if_neg (by omega), if_neg (by omega)]
  · rcases Nat.lt_or_ge k ((a + b) / 2) with h | h
    · obtain ⟨k', e', h'⟩ := q1 k x h
      exact ⟨k', by omega, by omega, e'⟩
    · obtain ⟨k', e', h'⟩ := q2 k h y
      exact ⟨k', by omega, by omega, e'⟩
  · intro i j hi hij hj
    rcases Nat.lt_or_ge j ((a + b) / 2) with h | h
    · rw [i2.1 i (by omega), i2.1 j (by omega)]
      exact s1 i j hi hij h
    · rcases Nat.lt_or_ge i ((a + b) / 2) with h' | h'
      · obtain ⟨k1, e1, x1⟩ := q1 i hi h'
        obtain ⟨k2, e2, x2⟩ := q2 j h hj
        rw [e1, e2]
        exact part k1 k2 x1 x2
      · exact s2 i j h' hij hj

/-- One half is sorted already where nothing was turned into it. -/
theorem rot_left {a m b s e : Nat} (h1 : SrtF key a m f) (h2 : SrtF key m b f) (c : Cut key f a m b s e) (hs : ¬ (a < s ∧ s < (a + b) / 2)) : SrtF key a ((a + b) / 2) (rotF f s m e) := by
  obtain ⟨c1, c2, c3, c4, c5, c6, c7⟩ := c
  intro i j hi hij hj
  simp only [rotF]
  (repeat' split) <;> first | omega | exact h1 _ _ (by omega) (by omega) (by omega) | exact h2 _ _ (by omega) (by omega) (by omega)
theorem rot_right {a m b s e : Nat} (h1 : SrtF key a m f) (h2 : SrtF key m b f) (c : Cut key f a m b s e) (hs : ¬ ((a + b) / 2 < e ∧ e < b)) : SrtF key ((a + b) / 2) b (rotF f s m e) := by
  obtain ⟨c1, c2, c3, c4, c5, c6, c7⟩ := c
  intro i j hi hij hj
  simp only [rotF]
  (repeat' split) <;> first | omega | exact h1 _ _ (by omega) (by omega) (by omega) | exact h2 _ _ (by omega) (by omega) (by omega)
theorem SrtF.of_same {a b : Nat} (h : SrtF key a b f) (he : ∀ k, a ≤ k → k < b → g k = f k) : SrtF key a b g := by
  intro i j hi hij hj
  rw [he i hi (by omega), he j (by omega) hj]
  exact h i j hi hij hj
/-- What the rotation leaves: two sorted runs in each half. -/
theorem rot_runs {a m b s e : Nat} (h1 : SrtF key a m f) (h2 : SrtF key m b f) (c : Cut key f a m b s e) :
    SrtF key a s (rotF f s m e) ∧ SrtF key s ((a + b) / 2) (rotF f s m e) ∧ SrtF key ((a + b) / 2) e (rotF f s m e) ∧ SrtF key e b (rotF f s m e) := by
  obtain ⟨c1, c2, c3, c4, c5, c6, c7⟩ := c
  refine ⟨?_, ?_, ?_, ?_⟩ <;> (intro i j hi hij hj; simp only [rotF]; (repeat' split) <;> first | omega | exact h1 _ _ (by omega) (by omega) (by omega) | exact h2 _ _ (by omega) (by omega) (by omega))
theorem InF_rot {a m b s e : Nat} (c : Cut key f a m b s e) : InF a b f (rotF f s m e) := by
  obtain ⟨c1, c2, c3, c4, c5, c6, c7⟩ := c
  refine ⟨fun k hk => ?_, fun k x y => ?_⟩
  · simp only [rotF]
    by_cases h : k < s
    · rw [if_pos h]
    · rw [if_neg h, if_neg (by omega), if_neg (by omega)]
  · simp only [rotF]
    by_cases h : k < s
    · rw [if_pos h]; exact ⟨k, x, y, rfl⟩
    · rw [if_neg h]
      split
      · exact ⟨_, by omega, by omega, rfl⟩
      · split
        · exact ⟨_, by omega, by omega, rfl⟩
        · exact ⟨k, x, y, rfl⟩

/-! ### one element put into a sorted run -/
/-- The element at p was moved up to q, those between one down. -/
def mvUp (f : Nat → α) (p q : Nat) : Nat → α := fun k => if p ≤ k ∧ k < q then f (k + 1) else if k = q then f p else f k
theorem mvUp_self (f : Nat → α) (p : Nat) : mvUp f p p = f := by
  funext k; simp only [mvUp]; rw [if_neg (by omega)]; split
  · rename_i h; rw [h]
  · rfl
theorem mvUp_succ (f : Nat → α) {p q : Nat} (h : p ≤ q) : swF (mvUp f p q) q (q + 1) = mvUp f p (q + 1) := by
  funext k
  simp only [swF, mvUp]
  by_cases h1 : k = q
  · subst h1
    rw [if_pos rfl, if_neg (show ¬ (p ≤ k + 1 ∧ k + 1 < k) by omega), if_neg (show ¬ k + 1 = k by omega), if_pos (show p ≤ k ∧ k < k + 1 by omega)]
  · rw [if_neg h1]
    by_cases h2 : k = q + 1
    · subst h2
      rw [if_pos rfl, if_neg (show ¬ (p ≤ q ∧ q < q) by omega), if_pos rfl, if_neg (show ¬ (p ≤ q + 1 ∧ q + 1 < q + 1) by omega), if_pos trivial]
    · rw [if_neg h2, if_neg h2]
      by_cases h3 : p ≤ k ∧ k < q
      · rw [if_pos h3, if_pos (by omega)]
      · rw [if_neg h3, if_neg h1, if_neg (by omega)]
/-- The element at p was moved down to q, those between one up. -/
def mvDn (f : Nat → α) (p q : Nat) : Nat → α := fun k => if q < k ∧ k ≤ p then f (k - 1) else if k = q then f p else f k
theorem mvDn_self (f : Nat → α) (p : Nat) : mvDn f p p = f := by
  funext k; simp only [mvDn]; rw [if_neg (by omega)]; split
  · rename_i h; rw [h]
  · rfl
theorem mvDn_pred (f : Nat → α) {p q : Nat} (h : q ≤ p) (hq : 0 < q) : swF (mvDn f p q) q (q - 1) = mvDn f p (q - 1) := by
  funext k
  simp only [swF, mvDn]
  by_cases h1 : k = q
  · subst h1
    rw [if_pos rfl, if_neg (show ¬ (k < k - 1 ∧ k - 1 ≤ p) by omega), if_neg (show ¬ k - 1 = k by omega), if_pos (show k - 1 < k ∧ k ≤ p by omega)]
  · rw [if_neg h1]
    by_cases h2 : k = q - 1
    · subst h2
      rw [if_pos rfl, if_neg (show ¬ (q < q ∧ q ≤ p) by omega), if_pos rfl, if_neg (show ¬ (q - 1 < q - 1 ∧ q - 1 ≤ p) by omega), if_pos trivial]
    · rw [if_neg h2, if_neg h2]
      by_cases h3 : q < k ∧ k ≤ p
      · rw [if_pos h3, if_pos (by omega)]
      · rw [if_neg h3, if_neg h1, if_neg (by omega)]
theorem mvUp_merge {a b q : Nat} (hq : a ≤ q) (hqb : q < b) (h2 : SrtF key (a + 1) b f) (hlo : ∀ k, a < k → k ≤ q → key (f k) ≤ key (f a)) (hhi : ∀ k, q < k → k < b → key (f a) ≤ key (f k)) :
    InF a b f (mvUp f a q) ∧ SrtF key a b (mvUp f a q) := by
  refine ⟨⟨fun k hk => ?_, fun k x y => ?_⟩, ?_⟩
  · simp only [mvUp]; rw [if_neg (by omega), if_neg (by omega)]
  · simp only [mvUp]
    split
    · exact ⟨_, by omega, by omega, rfl⟩
    · split
      · exact ⟨_, Nat.le_refl _, by omega, rfl⟩
      · exact ⟨k, x, y, rfl⟩
  · intro i j hi hij hj
    simp only [mvUp]
    (repeat' split) <;> first | omega | exact h2 _ _ (by omega) (by omega) (by omega) | exact hlo _ (by omega) (by omega) | exact hhi _ (by omega) (by omega)
theorem mvDn_merge {a m q : Nat} (haq : a ≤ q) (hqm : q ≤ m) (h1 : SrtF key a m f) (hlo : ∀ k, a ≤ k → k < q → key (f k) ≤ key (f m)) (hhi : ∀ k, q ≤ k → k < m → key (f m) ≤ key (f k)) :
    InF a (m + 1) f (mvDn f m q) ∧ SrtF key a (m + 1) (mvDn f m q) := by
  refine ⟨⟨fun k hk => ?_, fun k x y => ?_⟩, ?_⟩
  · simp only [mvDn]; rw [if_neg (by omega), if_neg (by omega)]
  · simp only [mvDn]
    split
    · exact ⟨_, by omega, by omega, rfl⟩
    · split
      · exact ⟨m, by omega, by omega, rfl⟩
      · exact ⟨k, x, y, rfl⟩
  · intro i j hi hij hj
    simp only [mvDn]
    (repeat' split) <;> first | omega | exact h1 _ _ (by omega) (by omega) (by omega) | exact hlo _ (by omega) (by omega) | exact hhi _ (by omega) (by omega) | (rcases Nat.eq_or_lt_of_le (show i ≤ j - 1 by omega) with h5 | h5 <;> first | omega | exact h1 _ _ hi h5 (by omega))
/-- The head of a sorted run grows by one element that is put where it belongs. -/
theorem ins_step {a j i : Nat} (haj : a ≤ j) (hji : j ≤ i) (h1 : SrtF key a i f) (hstop : j = a ∨ key (f (j - 1)) ≤ key (f i)) (hhi : ∀ k, j ≤ k → k < i → key (f i) ≤ key (f k)) : InF a (i + 1) f (mvDn f i j) ∧ SrtF key a (i + 1) (mvDn f i j) := by
  refine mvDn_merge haj hji h1 (fun k x y => ?_) hhi
  rcases hstop with rfl | h
  · omega
  · rcases Nat.eq_or_lt_of_le (show k ≤ j - 1 by omega) with e | e
    · rw [e]; exact h
    · exact Nat.le_trans (h1 k (j - 1) x e (by omega)) h
end
end Go.Proofs.Ytcilfoicoambhaa
