/- The hidden world: stores into a row of the program's own; rows as functions of the index. Own work; program-independent. -/
import Derived.Test.YtcilfoicoambhaaFwRange
set_option linter.unusedVariables false
set_option linter.unusedSimpArgs false
namespace Go.Hw
open Go Go.RowKit

variable {P : Program} {w0 : World} {ro : Option Nat} {K : Post} {R : List Asn} {L : List Value} {ds : List Deferred} {ops : Array Oper}

def splL (xs : List Value) (off : Nat) (vs : List Value) : List Value := xs.take off ++ vs ++ xs.drop (off + vs.length)

section
variable {d : Option Nat} {ty : TypeId} {pos : String} {af : Array Edge} {gd : Option (Nat × Bool)} {ρ : Operand → Value}
theorem SO_storeO {t : TypeId} {x y : Operand} {g off k sz n c : Nat} {v : Value} {vs xs : List Value} {e : TypeId} {R' : List Asn} (hx : Ev L x (.pointer (some ⟨g, off, none⟩))) (hy : Ev L y v)
    (hs : ∀ w, (sizeOf t).run P w = .ok k w) (hvs : v.cells = vs.toArray) (hn : vs.length = k) (h1 : vs.all (·.oneCell') = true)
    (hm : Rep R (own e sz (.slice (some ⟨g, 0, none⟩) n c) n xs) (own e sz (.slice (some ⟨g, 0, none⟩) n c) n (splL xs off vs)) R') (hfit : off + vs.length ≤ xs.length) :
    ∀ ρ, Rho L ρ → SO P w0 (execOp ρ ⟨d, .store t x y, ty, pos, af, gd⟩) R (fun u R'' => u = undef ∧ R'' = R') := by
  intro ρ hρ w hw
  obtain ⟨i, hi, rfl⟩ := hm.idx
  have hown : w.ownsRow 0 e sz (.slice (some ⟨g, 0, none⟩) n c) n xs := hw.ok _ (List.mem_of_getElem? hi)
  obtain ⟨hl, hor⟩ := hown
  rcases hor with ⟨h0, _⟩ | ⟨g', cap, cur, hv, _, hg, hnc, hcm, hcs, htk⟩
  · cases h0
  injection hv with hv1 hv2 hv3
  injection hv1 with hv1
  injection hv1 with hv1
  subst hv1 hv3
  have hcl : cur.toList.length = c * sz := by simpa using hcs
  have hle : n * sz ≤ c * sz := Nat.mul_le_mul_right _ hnc
  have hst := run_storeCells_at P g off e vs 0 cur w hg (by simp; omega) (fun u hu => by simpa using (List.all_eq_true.1 h1) u hu)
  have hlt : g < w.heap.size := (Array.getElem?_eq_some_iff.1 hg).1
  have hsp : (spl cur off vs).toList = splL xs off vs ++ cur.toList.drop (n * sz) := by
    have hd : cur.toList = xs ++ cur.toList.drop (n * sz) := by rw [← htk]; exact (List.take_append_drop _ _).symm
    have e1 : cur.toList.take off = xs.take off := by
      rw [← htk, List.take_take, Nat.min_eq_left (by omega)]
    have e2 : cur.toList.drop (off + vs.length) = xs.drop (off + vs.length) ++ cur.toList.drop (n * sz) := by
      conv => lhs; rw [hd]
      rw [List.drop_append_of_le_length hfit]
    simp only [spl, splL, e1, e2, List.append_assoc]
  refine ⟨undef, w.setRow g (spl cur off vs), _, .inr ⟨rfl, ?_⟩, ?_, rfl, rfl⟩
  · simp only [Nat.add_zero] at hst
    simp [execOp, hρ _ _ hx, hρ _ _ hy, Instr.storeAt, Instr.sureAddr, storeVar, hs, hvs, hn, Result.andThen]
    rw [hst]
    simp [spl, hn]
  · have hsl : (splL xs off vs).length = n * sz := by
      simp only [splL, List.length_append, List.length_take, List.length_drop]
      omega
    refine hw.step hi (w' := w.setRow g (spl cur off vs)) rfl rfl rfl (by simp) (fun k hk hf => setRow_other w g k _ (fun e => hf (by subst e; rfl))) ?_ ?_
    · refine ⟨hsl, .inr ⟨g, c, spl cur off vs, rfl, Nat.zero_le _, setRow_heap w g cur _ e _ hg, hnc, hcm, ?_, ?_⟩⟩
      · have := congrArg List.length hsp
        simp only [Array.length_toList, List.length_append, List.length_drop] at this
        omega
      · rw [hsp, List.take_append_of_le_length (by omega), List.take_of_length_le (by omega)]
    · intro k hk
      have hk' : some g = some k := hk
      injection hk' with hk'
      subst hk'
      exact ⟨.inl rfl, by simpa using hlt⟩
end

/-! ### rows as functions -/
section
variable {α : Type}
def rowF (enc : α → List Value) (n : Nat) (f : Nat → α) : List Value := (List.range n).flatMap fun k => enc (f k)
def upd (f : Nat → α) (i : Nat) (t : α) : Nat → α := fun k => if k = i then t else f k
variable {enc : α → List Value} {sz : Nat}
theorem rowF_succ (n : Nat) (f : Nat → α) : rowF enc (n + 1) f = rowF enc n f ++ enc (f n) := by simp [rowF, List.range_succ, List.flatMap_append]
theorem rowF_length (hsz : ∀ x, (enc x).length = sz) (n : Nat) (f : Nat → α) : (rowF enc n f).length = n * sz := by
  induction n with
  | zero => simp [rowF]
  | succ n ih => rw [rowF_succ, List.length_append, ih, hsz, Nat.add_mul, Nat.one_mul]
theorem rowF_one (h1 : ∀ x, ∀ u ∈ enc x, u.oneCell' = true) (n : Nat) (f : Nat → α) : ∀ u ∈ rowF enc n f, u.oneCell' = true := by
  intro u hu
  obtain ⟨k, _, hk⟩ := List.mem_flatMap.1 hu
  exact h1 _ u hk
theorem rowF_get (hsz : ∀ x, (enc x).length = sz) {n : Nat} (f : Nat → α) {i : Nat} (hi : i < n) : ((rowF enc n f).drop (i * sz)).take sz = enc (f i) := by
  induction n with
  | zero => omega
  | succ n ih =>
    have hl := rowF_length hsz n f
    rw [rowF_succ]
    rcases Nat.lt_or_ge i n with h | h
    · have hm : (i + 1) * sz ≤ n * sz := Nat.mul_le_mul_right _ h
      rw [Nat.add_mul, Nat.one_mul] at hm
      rw [List.drop_append_of_le_length (by omega), List.take_append_of_le_length (by rw [List.length_drop]; omega), ih h]
    · obtain rfl : i = n := by omega
      rw [← hl, List.drop_left, List.take_of_length_le (by rw [hsz]; omega)]
theorem rowF_congr {n : Nat} {f g : Nat → α} (h : ∀ k, k < n → f k = g k) : rowF enc n f = rowF enc n g := by
  unfold rowF
  rw [List.flatMap_def, List.flatMap_def]
  congr 1
  exact List.map_congr_left fun k hk => by rw [h k (List.mem_range.1 hk)]
theorem rowF_set (hsz : ∀ x, (enc x).length = sz) {n : Nat} (f : Nat → α) {i : Nat} (hi : i < n) (t : α) : splL (rowF enc n f) (i * sz) (enc t) = rowF enc n (upd f i t) := by
  unfold splL
  rw [hsz]
  induction n with
  | zero => omega
  | succ n ih =>
    have hl := rowF_length hsz n f
    rw [rowF_succ, rowF_succ]
    rcases Nat.lt_or_ge i n with h | h
    · have hm : (i + 1) * sz ≤ n * sz := Nat.mul_le_mul_right _ h
      rw [Nat.add_mul, Nat.one_mul] at hm
      rw [List.take_append_of_le_length (by omega), List.drop_append_of_le_length (by omega), ← List.append_assoc, ih h]
      simp [upd, show ¬ n = i by omega]
    · obtain rfl : i = n := by omega
      rw [← hl, List.take_left, List.drop_of_length_le (by rw [List.length_append, hsz]; omega), List.append_nil]
      rw [rowF_congr (f := upd f i t) (g := f) (fun k hk => by simp [upd, show ¬ k = i by omega])]
      simp [upd]
theorem rowF_list [Inhabited α] (l : List α) : l.flatMap enc = rowF enc l.length (fun k => l.getD k default) := by
  unfold rowF
  rw [List.flatMap_def, List.flatMap_def]
  congr 1
  apply List.ext_getElem?
  intro i
  by_cases hi : i < l.length
  · simp [hi, List.getD]
  · simp [hi]
theorem rowF_map (n : Nat) (f : Nat → α) : rowF enc n f = ((List.range n).map f).flatMap enc := by
  unfold rowF
  rw [List.flatMap_map]
end

section
variable {d : Option Nat} {ty : TypeId} {pos : String} {af : Array Edge} {gd : Option (Nat × Bool)} {ρ : Operand → Value} {α : Type}
/-- An element of a row of the program's own is stored. -/
theorem SO_storeF {t : TypeId} {x y : Operand} {g i sz n c : Nat} {v : Value} {e : TypeId} {R' : List Asn} {enc : α → List Value} (a : α) {f : Nat → α} (hx : Ev L x (.pointer (some ⟨g, 0 + i * sz, none⟩))) (hy : Ev L y v)
    (hs : ∀ w, (sizeOf t).run P w = .ok sz w) (hvs : v.cells = (enc a).toArray) (hsz : ∀ x, (enc x).length = sz) (h1 : ∀ x, ∀ u ∈ enc x, u.oneCell' = true) (hi : i < n)
    (hm : Rep R (own e sz (.slice (some ⟨g, 0, none⟩) n c) n (rowF enc n f)) (own e sz (.slice (some ⟨g, 0, none⟩) n c) n (rowF enc n (upd f i a))) R') :
    ∀ ρ, Rho L ρ → SO P w0 (execOp ρ ⟨d, .store t x y, ty, pos, af, gd⟩) R (fun u R'' => u = undef ∧ R'' = R') := by
  rw [← rowF_set hsz f hi a] at hm
  have hl := rowF_length hsz n f
  have hm2 : (i + 1) * sz ≤ n * sz := Nat.mul_le_mul_right _ hi
  rw [Nat.add_mul, Nat.one_mul] at hm2
  rw [Nat.zero_add] at hx
  exact SO_storeO hx hy hs hvs (hsz a) (by rw [List.all_eq_true]; exact h1 a) hm (by rw [hsz, hl]; omega)
theorem sl_ownF {e sz n c g : Nat} {enc : α → List Value} {f : Nat → α} (hsz : ∀ x, (enc x).length = sz) (h1 : ∀ x, ∀ u ∈ enc x, u.oneCell' = true) (hm : own e sz (.slice (some ⟨g, 0, none⟩) n c) n (rowF enc n f) ∈ R) : Sl w0 R sz (some ⟨g, 0, none⟩) n (rowF enc n f) :=
  Sl.of_own hm (rowF_length hsz n f) (rowF_one h1 n f) (fun _ => ⟨g, rfl⟩)
end
end Go.Hw
