/- The hidden world: rows of the program's own, slices that are read, append, copy, make, cuts. Own work; program-independent. -/
import Derived.Test.YtcilfoicoambhaaFwDraw
import Derived.Maps.AppendAt
import Derived.Deep.AppendLies
import Derived.Laws.IdiomCopy
import Derived.Laws.MakeOwn
import Derived.Laws.Slices
import Derived.Laws.IdiomStrings
import Derived.Laws.BytesArg
set_option linter.unusedVariables false
set_option linter.unusedSimpArgs false
namespace Go.Hw
open Go Go.RowKit

variable {P : Program} {w0 : World} {ro : Option Nat} {K : Post} {R : List Asn} {L : List Value} {ds : List Deferred} {ops : Array Oper}

/-! ### a resource in another's place -/
inductive Rep : List Asn → Asn → Asn → List Asn → Prop
  | head {A A' : Asn} {R : List Asn} : Rep (A :: R) A A' (A' :: R)
  | tail {A A' B : Asn} {R R' : List Asn} (h : Rep R A A' R') : Rep (B :: R) A A' (B :: R')
  | at_ {i : Nat} {A A' : Asn} {R : List Asn} (h : R[i]? = some A) : Rep R A A' (R.set i A')
theorem Rep.idx {R R' : List Asn} {A A' : Asn} (h : Rep R A A' R') : ∃ i, R[i]? = some A ∧ R' = R.set i A' := by
  induction h with
  | head => exact ⟨0, rfl, rfl⟩
  | tail _ ih => obtain ⟨i, h1, rfl⟩ := ih; exact ⟨i + 1, h1, rfl⟩
  | at_ h => exact ⟨_, h, rfl⟩
theorem Rep.set {R : List Asn} {i : Nat} {A A1 A2 : Asn} (h : R[i]? = some A) : Rep (R.set i A1) A1 A2 (R.set i A2) := by
  have hi : i < R.length := (List.getElem?_eq_some_iff.1 h).1
  have := Rep.at_ (R := R.set i A1) (i := i) (A := A1) (A' := A2) (by simp [hi])
  simpa using this
theorem Rep.mem {R R' : List Asn} {A A' : Asn} (h : Rep R A A' R') : A ∈ R := by
  obtain ⟨i, hi, _⟩ := h.idx
  exact List.mem_of_getElem? hi

/-- A world that differs on A's footprint alone, and is longer. -/
theorem Holds.step {w w' : World} (h : Holds w0 R w) {i : Nat} {A A' : Asn} (hi : R[i]? = some A)
    (hos : w'.os = w.os) (htape : w'.tape = w.tape) (hout : w'.output = w.output) (hsz : w.heap.size ≤ w'.heap.size)
    (hother : ∀ k, k < w.heap.size → ¬ A.fp k → w'.heap[k]? = w.heap[k]?) (hA : A'.ok w') (hfp : ∀ k, A'.fp k → (A.fp k ∨ w.heap.size ≤ k) ∧ k < w'.heap.size) :
    Holds w0 (R.set i A') w' := by
  have hil : i < R.length := (List.getElem?_eq_some_iff.1 hi).1
  have hmem : A ∈ R := List.mem_of_getElem? hi
  have ei : R[i] = A := (List.getElem?_eq_some_iff.1 hi).2
  have hd := List.pairwise_iff_getElem.1 h.dis
  have hap : ∀ j (hj : j < R.length), j ≠ i → ∀ k, R[j].fp k → ¬ A.fp k := by
    intro j hjl hne k hk hA
    rcases Nat.lt_or_ge j i with hlt | hge
    · have := hd j i hjl hil hlt
      rw [ei] at this
      exact this k hk hA
    · have := hd i j hil hjl (by omega)
      rw [ei] at this
      exact this k hA hk
  have hlt : ∀ j (hj : j < R.length) k, R[j].fp k → k < w.heap.size := fun j hj k hk => (h.rng _ (List.getElem_mem hj) k hk).2
  refine ⟨hos.trans h.os, htape.trans h.tape, hout.trans h.output, Nat.le_trans h.size hsz, fun k hk => (hother k (Nat.lt_of_lt_of_le hk h.size) (fun hf => by have := (h.rng A hmem k hf).1; omega)).trans (h.old k hk), ?_, ?_, ?_⟩
  · intro B hB
    obtain ⟨j, hj, rfl⟩ := List.getElem_of_mem hB
    have hj' : j < R.length := by simpa using hj
    rw [List.getElem_set]
    split
    · exact hA
    · rename_i hne
      exact (R[j]).loc w w' (fun k hk => hother k (hlt j hj' k hk) (hap j hj' (fun e => hne e.symm) k hk)) (h.ok _ (List.getElem_mem hj'))
  · intro B hB k hk
    obtain ⟨j, hj, rfl⟩ := List.getElem_of_mem hB
    have hj' : j < R.length := by simpa using hj
    rw [List.getElem_set] at hk
    split at hk
    · obtain ⟨hor, hlt'⟩ := hfp k hk
      refine ⟨?_, hlt'⟩
      rcases hor with hor | hor
      · exact (h.rng A hmem k hor).1
      · have := h.size; omega
    · have := h.rng _ (List.getElem_mem hj') k hk
      omega
  · rw [List.pairwise_iff_getElem]
    intro a b ha hb hab k hk hk'
    have ha' : a < R.length := by simpa using ha
    have hb' : b < R.length := by simpa using hb
    rw [List.getElem_set] at hk hk'
    split at hk <;> split at hk'
    · omega
    · rename_i e1 e2
      rcases (hfp k hk).1 with hor | hor
      · exact hap b hb' (fun e => e2 e.symm) k hk' hor
      · have := hlt b hb' k hk'; omega
    · rename_i e1 e2
      rcases (hfp k hk').1 with hor | hor
      · exact hap a ha' (fun e => e1 e.symm) k hk hor
      · have := hlt a ha' k hk; omega
    · exact hd a b ha' hb' hab k hk hk'

/-- The same memory, told otherwise. -/
theorem Holds.turn {w : World} {R' : List Asn} {A A' : Asn} (h : Holds w0 R w) (hr : Rep R A A' R') (hok : A.ok w → A'.ok w) (hfp : ∀ k, A'.fp k → A.fp k) : Holds w0 R' w := by
  obtain ⟨i, hi, rfl⟩ := hr.idx
  have hm := List.mem_of_getElem? hi
  exact h.step hi rfl rfl rfl (Nat.le_refl _) (fun _ _ _ => rfl) (hok (h.ok A hm)) (fun k hk => ⟨.inl (hfp k hk), (h.rng A hm k (hfp k hk)).2⟩)
/-- What takes no memory. -/
theorem Holds.free {w : World} {A : Asn} (h : Holds w0 R w) (hok : A.ok w) (hfp : ∀ k, ¬ A.fp k) : Holds w0 (A :: R) w :=
  ⟨h.os, h.tape, h.output, h.size, h.old, fun B hB => by
    rcases List.mem_cons.1 hB with rfl | hB
    · exact hok
    · exact h.ok B hB, fun B hB k hk => by
    rcases List.mem_cons.1 hB with rfl | hB
    · exact absurd hk (hfp k)
    · exact h.rng B hB k hk, List.pairwise_cons.2 ⟨fun B _ k hk _ => hfp k hk, h.dis⟩⟩

theorem HC_turn {c : Code} {a : Act} {R' : List Asn} {A A' : Asn} (hr : Rep R A A' R') (hok : ∀ w, A.ok w → A'.ok w) (hfp : ∀ k, A'.fp k → A.fp k) (h : HC P w0 ro c K a R') : HC P w0 ro c K a R := fun w hw => h w (hw.turn hr (hok w) hfp)
theorem HL_turn {l : List Oper} {a : Act} {R' : List Asn} {A A' : Asn} (hr : Rep R A A' R') (hok : ∀ w, A.ok w → A'.ok w) (hfp : ∀ k, A'.fp k → A.fp k) (h : HL P w0 ro ops K l a R') : HL P w0 ro ops K l a R := fun w hw => h w (hw.turn hr (hok w) hfp)
theorem HC_free {c : Code} {a : Act} {A : Asn} (hok : ∀ w, A.ok w) (hfp : ∀ k, ¬ A.fp k) (h : HC P w0 ro c K a (A :: R)) : HC P w0 ro c K a R := fun w hw => h w (hw.free (hok w) hfp)
theorem HL_free {l : List Oper} {a : Act} {A : Asn} (hok : ∀ w, A.ok w) (hfp : ∀ k, ¬ A.fp k) (h : HL P w0 ro ops K l a (A :: R)) : HL P w0 ro ops K l a R := fun w hw => h w (hw.free (hok w) hfp)
/-- What every world that R holds of shows. -/
theorem HC_fact {c : Code} {a : Act} {p : Prop} (h : ∀ w, Holds w0 R w → p) (k : p → HC P w0 ro c K a R) : HC P w0 ro c K a R := fun w hw => k (h w hw) w hw
theorem HL_fact {l : List Oper} {a : Act} {p : Prop} (h : ∀ w, Holds w0 R w → p) (k : p → HL P w0 ro ops K l a R) : HL P w0 ro ops K l a R := fun w hw => k (h w hw) w hw
theorem DA_fact {q : Nat} {Rd X : List Asn} {fuel : Nat} {listed : Array Bool} {a : Act} {p : Prop} (h : ∀ w, Holds w0 (X ++ Rd) w → p) (k : p → DA P w0 ro ops K q Rd fuel listed a X) : DA P w0 ro ops K q Rd fuel listed a X := fun hd w hw => k (h w hw) hd w hw
theorem CH_fact {f : FuncId} {args : Array Value} {Φ : Value → List Asn → Prop} {p : Prop} (h : ∀ w, Holds w0 R w → p) (k : p → CH P w0 f args R Φ) : CH P w0 f args R Φ := fun w hw => k (h w hw) w hw

/-! ### rows of the program's own -/
theorem ownsRow_loc {w w' : World} {base e sz n : Nat} {v : Value} {xs : List Value} (hm : ∀ k, v.ownBlock = some k → w'.heap[k]? = w.heap[k]?) (h : w.ownsRow base e sz v n xs) : w'.ownsRow base e sz v n xs := by
  obtain ⟨h1, h2⟩ := h
  refine ⟨h1, ?_⟩
  rcases h2 with h2 | ⟨g, cap, cur, rfl, hg, hh, r⟩
  · exact .inl h2
  · exact .inr ⟨g, cap, cur, rfl, hg, (hm g (by simp [Value.ownBlock])).trans hh, r⟩
/-- The slice v is the program's own: n elements of type e, sz cells each, and nobody else's; what lies behind them is free. -/
def own (e sz : Nat) (v : Value) (n : Nat) (xs : List Value) : Asn := ⟨fun k => v.ownBlock = some k, fun w => w.ownsRow 0 e sz v n xs, fun _ _ h ho => ownsRow_loc h ho⟩

theorem own_len {w : World} {e sz n : Nat} {v : Value} {xs : List Value} (hw : Holds w0 R w) (hm : own e sz v n xs ∈ R) : xs.length = n * sz := (hw.ok _ hm).1
theorem own_shape {w : World} {e sz n : Nat} {v : Value} {xs : List Value} (hw : Holds w0 R w) (hm : own e sz v n xs ∈ R) :
    ∃ A c, v = .slice A n c ∧ n ≤ c ∧ c ≤ maxLen ∧ (0 < n → ∃ g, A = some ⟨g, 0, none⟩) := by
  have h : w.ownsRow 0 e sz v n xs := hw.ok _ hm
  rcases h.2 with ⟨rfl, rfl⟩ | ⟨g, cap, cur, rfl, _, _, hnc, hcm, _⟩
  · exact ⟨none, 0, rfl, Nat.le_refl _, by simp [maxLen], fun h => absurd h (Nat.lt_irrefl _)⟩
  · exact ⟨_, cap, rfl, hnc, hcm, fun _ => ⟨g, rfl⟩⟩
theorem own_nil_ok {e sz : Nat} (w : World) : (own e sz (.slice none 0 0) 0 []).ok w := World.ownsRow_nil w 0 e sz
theorem own_nil_fp {e sz : Nat} (k : Nat) : ¬ (own e sz (.slice none 0 0) 0 []).fp k := by simp [own, Value.ownBlock]
/-- A block that was made as a row. -/
theorem own_of_pt {e sz g n : Nat} {cs : List Value} (hn : cs.length = n * sz) (hm : n ≤ maxLen) (w : World) (h : (pt g (.cells cs.toArray e (0, 0))).ok w) : (own e sz (.slice (some ⟨g, 0, none⟩) n n) n cs).ok w :=
  ⟨hn, .inr ⟨g, n, cs.toArray, rfl, Nat.zero_le _, h, Nat.le_refl _, hm, by simpa using hn, by simpa using List.take_of_length_le (by omega)⟩⟩
theorem own_of_pt_fp {e sz g n c : Nat} {o : Obj} {cs : List Value} (k : Nat) (h : (own e sz (.slice (some ⟨g, 0, none⟩) n c) n cs).fp k) : (pt g o).fp k := by
  have : some g = some k := h
  injection this with this
  exact this.symm

/-! ### slices that are read -/
/-- In every world that R holds of, the n elements from A on, sz cells each, are cs. -/
structure Sl (w0 : World) (R : List Asn) (sz : Nat) (A : Option Addr) (n : Nat) (cs : List Value) : Prop where
  len : cs.length = n * sz
  one : ∀ u ∈ cs, u.oneCell' = true
  addr : 0 < n → ∃ g off, A = some ⟨g, off, none⟩
  cell : ∀ g off, A = some ⟨g, off, none⟩ → ∀ w, Holds w0 R w → ∀ j u, cs[j]? = some u → w.cell? ⟨g, off + j, none⟩ = some u

theorem Sl.mono {R' : List Asn} {sz n : Nat} {A : Option Addr} {cs : List Value} (h : Sl w0 R sz A n cs) (hs : ∀ w, Holds w0 R' w → Holds w0 R w) : Sl w0 R' sz A n cs :=
  ⟨h.len, h.one, h.addr, fun g off e w hw => h.cell g off e w (hs w hw)⟩
theorem Sl.sub {R' : List Asn} {sz n : Nat} {A : Option Addr} {cs : List Value} (h : Sl w0 R sz A n cs) (hs : R.Sublist R') : Sl w0 R' sz A n cs := h.mono fun _ hw => hw.sub hs
theorem Sl.cons {B : Asn} {sz n : Nat} {A : Option Addr} {cs : List Value} (h : Sl w0 R sz A n cs) : Sl w0 (B :: R) sz A n cs := h.sub (List.sublist_cons_self _ _)
theorem Sl.nil {sz : Nat} {A : Option Addr} : Sl w0 R sz A 0 [] := ⟨by simp, by simp, fun h => absurd h (Nat.lt_irrefl _), fun _ _ _ _ _ j u h => by simp at h⟩
theorem Sl.of_own {e sz n c : Nat} {A : Option Addr} {xs : List Value} (hm : own e sz (.slice A n c) n xs ∈ R) (hl : xs.length = n * sz) (h1 : ∀ u ∈ xs, u.oneCell' = true) (ha : 0 < n → ∃ g, A = some ⟨g, 0, none⟩) : Sl w0 R sz A n xs := by
  refine ⟨hl, h1, fun h => by obtain ⟨g, e⟩ := ha h; exact ⟨g, 0, e⟩, ?_⟩
  rintro g off rfl w hw j u hu
  have h : w.ownsRow 0 e sz _ n xs := hw.ok _ hm
  have hpos : 0 < n := by
    rcases Nat.eq_zero_or_pos n with h0 | h0
    · subst h0
      have : xs = [] := List.eq_nil_of_length_eq_zero (by simpa using hl)
      subst this
      simp at hu
    · exact h0
  obtain ⟨g', e'⟩ := ha hpos
  injection e' with e'
  injection e' with e1 e2
  subst e1 e2
  have := h.cells (g := g) (by simp [Value.ownBlock]) j u hu
  have hadd : (⟨g, 0, none⟩ : Addr).add j = ⟨g, j, none⟩ := by unfold Addr.add; split <;> simp_all
  rw [hadd] at this
  simpa using this
theorem Sl.of_pt {e sz n g : Nat} {fr : Nat × Nat} {xs : Array Value} (hm : pt g (.cells xs e fr) ∈ R) (hl : xs.size = n * sz) (h1 : ∀ u ∈ xs.toList, u.oneCell' = true) : Sl w0 R sz (some ⟨g, 0, none⟩) n xs.toList := by
  refine ⟨by simpa using hl, h1, fun _ => ⟨g, 0, rfl⟩, ?_⟩
  rintro g' off e w hw j u hu
  injection e with e
  injection e with e1 e2
  subst e1 e2
  have := hw.get hm
  rw [Nat.zero_add, cell_of_row w g j xs _ _ this]
  simpa using hu
/-- Some elements of a slice. -/
theorem Sl.cut {sz n lo hi : Nat} {g off : Nat} {cs : List Value} (h : Sl w0 R sz (some ⟨g, off, none⟩) n cs) (h1 : lo ≤ hi) (h2 : hi ≤ n) : Sl w0 R sz (some ⟨g, off + lo * sz, none⟩) (hi - lo) ((cs.drop (lo * sz)).take ((hi - lo) * sz)) := by
  have hl := h.len
  refine ⟨?_, fun u hu => h.one u (List.mem_of_mem_drop (List.mem_of_mem_take hu)), fun _ => ⟨g, _, rfl⟩, ?_⟩
  · rw [List.length_take, List.length_drop, hl]
    have : hi * sz ≤ n * sz := Nat.mul_le_mul_right _ h2
    rw [Nat.sub_mul]
    omega
  · rintro g' off' e w hw j u hu
    injection e with e
    injection e with e1 e2
    subst e1 e2
    rw [List.getElem?_take] at hu
    split at hu
    · rw [List.getElem?_drop] at hu
      have := h.cell g off rfl w hw (lo * sz + j) u hu
      rw [← Nat.add_assoc] at this
      exact this
    · cases hu
theorem Sl.none {sz : Nat} {A : Option Addr} {cs : List Value} (h : cs = []) : Sl w0 R sz A 0 cs := by subst h; exact Sl.nil
/-- What a cut of a slice hands back. -/
theorem Sl.cutA {sz n c lo hi : Nat} {A : Option Addr} {cs : List Value} (h : Sl w0 R sz A n cs) (h1 : lo ≤ hi) (h2 : hi ≤ n) (hc : n ≤ c) :
    Sl w0 R sz (if c = lo then A else A.map (·.add (lo * sz))) (hi - lo) ((cs.drop (lo * sz)).take ((hi - lo) * sz)) := by
  rcases Nat.eq_or_lt_of_le h1 with e | e
  · subst e
    rw [Nat.sub_self, Nat.zero_mul, List.take_zero]
    exact Sl.nil
  · obtain ⟨g, off, rfl⟩ := h.addr (by omega)
    rw [if_neg (by omega)]
    have hadd : (⟨g, off, Option.none⟩ : Addr).add (lo * sz) = ⟨g, off + lo * sz, Option.none⟩ := by unfold Addr.add; split <;> simp_all
    simp only [Option.map_some, hadd]
    exact h.cut h1 h2
theorem Sl.upto {sz n hi : Nat} {A : Option Addr} {cs : List Value} (h : Sl w0 R sz A n cs) (h2 : hi ≤ n) : Sl w0 R sz A hi (cs.take (hi * sz)) := by
  have hl := h.len
  refine ⟨?_, fun u hu => h.one u (List.mem_of_mem_take hu), fun hp => h.addr (by omega), ?_⟩
  · rw [List.length_take, hl]
    have : hi * sz ≤ n * sz := Nat.mul_le_mul_right _ h2
    omega
  · rintro g off rfl w hw j u hu
    rw [List.getElem?_take] at hu
    split at hu
    · exact h.cell g off rfl w hw j u hu
    · cases hu

section
variable {d : Option Nat} {ty : TypeId} {pos : String} {af : Array Edge} {gd : Option (Nat × Bool)} {ρ : Operand → Value}

theorem QV_loadR {t : TypeId} {x : Operand} {g p off j sz n : Nat} {cs : List Value} {v : Value} (hx : Ev L x (.pointer (some ⟨g, p, none⟩))) (hp : p = off + j)
    (ha : ∀ w, (isAgg t).run P w = .ok false w) (hs : Sl w0 R sz (some ⟨g, off, none⟩) n cs) (hv : cs[j]? = some v) :
    ∀ ρ, Rho L ρ → QV P w0 (execOp ρ ⟨d, .load t x, ty, pos, af, gd⟩) R v := by
  intro ρ hρ w hw
  subst hp
  have hc := hs.cell g off rfl w hw j v hv
  simp [execOp, hρ _ _ hx, Instr.loadAt, Instr.sureAddr, loadVar, ha, hc, Result.andThen]
theorem QV_loadRA {t : TypeId} {x : Operand} {g p off j sz n m : Nat} {cs vs : List Value} (hx : Ev L x (.pointer (some ⟨g, p, none⟩))) (hp : p = off + j)
    (ha : ∀ w, (isAgg t).run P w = .ok true w) (hz : ∀ w, (sizeOf t).run P w = .ok m w) (hs : Sl w0 R sz (some ⟨g, off, none⟩) n cs) (hv : (cs.drop j).take m = vs) (hn : vs.length = m) :
    ∀ ρ, Rho L ρ → QV P w0 (execOp ρ ⟨d, .load t x, ty, pos, af, gd⟩) R (.agg vs.toArray) := by
  intro ρ hρ w hw
  subst hp
  have hl := run_loadCells_list (P := P) w ⟨g, off + j, none⟩ vs (fun i u hu => by
    have hadd : (⟨g, off + j, none⟩ : Addr).add i = ⟨g, off + j + i, none⟩ := by unfold Addr.add; split <;> simp_all
    rw [hadd, Nat.add_assoc]
    refine hs.cell g off rfl w hw (j + i) u ?_
    rw [← hv, List.getElem?_take] at hu
    split at hu
    · rw [List.getElem?_drop] at hu
      exact hu
    · cases hu)
  rw [hn] at hl
  simp [execOp, hρ _ _ hx, Instr.loadAt, Instr.sureAddr, loadVar, ha, hz, hl, Result.andThen]
theorem QV_cut {t e sz : TypeId} {x y z : Operand} {A : Option Addr} {n c : Nat} {k k' : IntKind} {lo hi : Int} (hx : Ev L x (.slice A n c)) (hy : Ev L y (.int k lo)) (hz : Ev L z (.int k' hi))
    (hu : P.underlying t = some (.slice e)) (hs : ∀ w, (sizeOf e).run P w = .ok sz w) (h0 : 0 ≤ lo) (h1 : lo ≤ hi) (h2 : hi ≤ c) :
    ∀ ρ, Rho L ρ → QV P w0 (execOp ρ ⟨d, .slice t x (some y) (some z) none, ty, pos, af, gd⟩) R (.slice (if c = lo.toNat then A else A.map (·.add (lo.toNat * sz))) (hi.toNat - lo.toNat) (c - lo.toNat)) := by
  intro ρ hρ w hw
  have hel : P.elem t = e := by simp [Program.elem, hu]
  have hu' : P.underlying t = some (.slice (P.elem t)) := by rw [hel]; exact hu
  have := run_slice_lh (P := P) w t A n c hu' k k' lo hi h0 h1 h2
  rw [hel, hs w] at this
  simp [execOp, hρ _ _ hx, hρ _ _ hy, hρ _ _ hz, Instr.sliceAt, run_underlying hu, this, Result.andThen, sliced]
theorem QV_cutl {t e sz : TypeId} {x y : Operand} {A : Option Addr} {n c : Nat} {k : IntKind} {lo : Int} (hx : Ev L x (.slice A n c)) (hy : Ev L y (.int k lo))
    (hu : P.underlying t = some (.slice e)) (hs : ∀ w, (sizeOf e).run P w = .ok sz w) (h0 : 0 ≤ lo) (h1 : lo ≤ n) :
    ∀ ρ, Rho L ρ → QV P w0 (execOp ρ ⟨d, .slice t x (some y) none none, ty, pos, af, gd⟩) R (.slice (if c = lo.toNat then A else A.map (·.add (lo.toNat * sz))) (n - lo.toNat) (c - lo.toNat)) := by
  intro ρ hρ w hw
  have hel : P.elem t = e := by simp [Program.elem, hu]
  have hu' : P.underlying t = some (.slice (P.elem t)) := by rw [hel]; exact hu
  have := run_slice_l (P := P) w t A n c hu' k lo h0 h1
  rw [hel, hs w] at this
  simp [execOp, hρ _ _ hx, hρ _ _ hy, Instr.sliceAt, run_underlying hu, this, Result.andThen, sliced]
theorem QV_cuth {t e sz : TypeId} {x y : Operand} {A : Option Addr} {n c : Nat} {k : IntKind} {hi : Int} (hx : Ev L x (.slice A n c)) (hy : Ev L y (.int k hi))
    (hu : P.underlying t = some (.slice e)) (hs : ∀ w, (sizeOf e).run P w = .ok sz w) (h0 : 0 ≤ hi) (h1 : hi ≤ c) :
    ∀ ρ, Rho L ρ → QV P w0 (execOp ρ ⟨d, .slice t x none (some y) none, ty, pos, af, gd⟩) R (.slice A hi.toNat c) := by
  intro ρ hρ w hw
  have hel : P.elem t = e := by simp [Program.elem, hu]
  have hu' : P.underlying t = some (.slice (P.elem t)) := by rw [hel]; exact hu
  have := run_slice_h (P := P) w t A n c hu' k hi h0 h1
  rw [hel, hs w] at this
  have hz : sliced A 0 hi.toNat c sz = .slice A hi.toNat c := by
    simp only [sliced, Nat.zero_mul, Nat.sub_zero]
    split
    · rfl
    · cases A <;> simp [Addr.add]
  simp [execOp, hρ _ _ hx, hρ _ _ hy, Instr.sliceAt, run_underlying hu, this, Result.andThen, hz]

theorem SO_buildSlice {t e : TypeId} {len : Nat} {parts : List (Nat × Operand)} {vs : List Value} {cs : Array Value} (hv : EvL L (parts.map (·.2)) vs)
    (hr : ∀ w, (Instr.buildSlice t len (((parts.map (·.1)).zip vs).toArray)).run P w = .ok (.slice (some ⟨w.heap.size, 0, none⟩) len len) (w.alloc (.cells cs e))) :
    ∀ ρ, Rho L ρ → SO P w0 (execOp ρ ⟨d, .buildSlice t len parts.toArray, ty, pos, af, gd⟩) R (fun v R' => ∃ g, v = .slice (some ⟨g, 0, none⟩) len len ∧ R' = pt g (.cells cs e (0, 0)) :: R) := by
  intro ρ hρ w hw
  have he : ∀ (ps : List (Nat × Operand)) (us : List Value), EvL L (ps.map (·.2)) us → ps.map (fun p => (p.1, ρ p.2)) = (ps.map (·.1)).zip us := by
    intro ps
    induction ps with
    | nil => intro us _; rfl
    | cons p ps ih =>
      intro us hu
      cases hu with
      | cons h k => simp [hρ _ _ h, ih _ k]
  have h1 : parts.toArray.map (fun (x : Nat × Operand) => match x with | (i, x) => (i, ρ x)) = ((parts.map (·.1)).zip vs).toArray := by
    rw [List.map_toArray, ← he parts vs hv]
  refine ⟨_, _, _, .inl ⟨_, rfl, ?_⟩, hw.alloc _, _, rfl, rfl⟩
  simp only [execOp, h1]
  rw [Sem.run_bind, hr w]
  rfl

theorem SO_make {t e : TypeId} {x y : Operand} {z : Value} {k k' : IntKind} {n : Int} (hx : Ev L x (.int k n)) (hy : Ev L y (.int k' n))
    (hrun : ∀ w : World, (Instr.makeSlice t (.int k n) (.int k' n)).run P w = .ok (.slice (some ⟨w.heap.size, 0, none⟩) n.toNat n.toNat) (w.alloc (.cells (madeCells #[z] n.toNat) e))) :
    ∀ ρ, Rho L ρ → SO P w0 (execOp ρ ⟨d, .makeSlice t x y, ty, pos, af, gd⟩) R (fun v R' => ∃ g, v = .slice (some ⟨g, 0, none⟩) n.toNat n.toNat ∧ R' = pt g (.cells (madeCells #[z] n.toNat) e (0, 0)) :: R) := by
  intro ρ hρ w hw
  refine ⟨_, _, _, .inl ⟨_, rfl, ?_⟩, hw.alloc _, _, rfl, rfl⟩
  simp only [execOp, hρ _ _ hx, hρ _ _ hy]
  rw [Sem.run_bind, hrun w]
  rfl

theorem spl_whole {cur : Array Value} {cs : List Value} (h : cs.length = cur.size) : spl cur 0 cs = cs.toArray := by
  unfold spl
  rw [List.take_zero, List.nil_append, List.drop_of_length_le (by simp; omega), List.append_nil]
theorem run_made {t e : TypeId} {z : Value} {bytes : Nat} {k k' : IntKind} {n : Int} (w : World) (ht : P.underlying t = some (.slice e)) (hinfo : (P.info? e).map (fun i => (i.zero, i.size, i.bytes)) = some (some z, 1, bytes)) (hz : z.cells = #[z])
    (h0 : 0 ≤ n) (hb : (bytes : Int) * n ≤ 281474976710656 ∧ n ≤ 9223372036854775807) :
    (Instr.makeSlice t (.int k n) (.int k' n)).run P w = .ok (.slice (some ⟨w.heap.size, 0, none⟩) n.toNat n.toNat) (w.alloc (.cells (madeCells #[z] n.toNat) e)) := by
  obtain ⟨i, hi, hzz⟩ := Option.map_eq_some_iff.1 hinfo
  simp only [Prod.mk.injEq] at hzz
  obtain ⟨h1, h2, h3⟩ := hzz
  have := run_make (P := P) w t e i z ht hi h1 k k' n n h0 (Int.le_refl _) (by rw [h3]; exact hb.1) hb.2
  rw [hz, h2, Nat.mul_one] at this
  exact this
theorem SO_copy {dT sT elem : TypeId} {x y : Operand} {dp sp : Option Addr} {dLen dCap sLen sCap g off : Nat} {cur : Array Value} {e : TypeId} {cs : List Value} {R' : List Asn}
    (hx : Ev L x (.slice dp dLen dCap)) (hy : Ev L y (.slice sp sLen sCap)) (hu : P.underlying dT = some (.slice elem)) (hsz : (P.info? elem).map (·.size) = some 1)
    (hn : cs.length = Nat.min sLen dLen) (hdp : 0 < cs.length → dp = some ⟨g, off, none⟩) (hsrc : Sl w0 R 1 sp cs.length cs)
    (hfit : off + cs.length ≤ cur.size) (hm : Upd R g (.cells cur e (0, 0)) (.cells (spl cur off cs) e (0, 0)) R') :
    ∀ ρ, Rho L ρ → SO P w0 (execOp ρ ⟨d, .call ⟨.builtin .copy, #[x, y], #[dT, sT]⟩, ty, pos, af, gd⟩) R (fun v R'' => v = .int .i64 (cs.length : Int) ∧ R'' = R') := by
  intro ρ hρ w hw
  obtain ⟨i, hi, rfl⟩ := hm.idx
  have hg := hw.get (List.mem_of_getElem? hi)
  have hset := hw.setAt hi (w' := w.setRow g (spl cur off cs)) (o' := .cells (spl cur off cs) e (0, 0)) rfl rfl rfl (by simp) (fun k hk => setRow_other w g k _ hk) (setRow_heap w g cur _ e _ hg)
  refine ⟨.int .i64 (cs.length : Int), w.setRow g (spl cur off cs), _, .inl ⟨_, rfl, ?_⟩, hset, rfl, rfl⟩
  by_cases h0 : cs.length = 0
  · obtain rfl : cs = [] := List.eq_nil_of_length_eq_zero h0
    have hrun := run_copy_none (P := P) w dT sT ty elem dp sp dLen dCap sLen sCap hu hsz (by simpa using hn.symm)
    have e0 : spl cur off [] = cur := by simp [spl]
    rw [e0, setRow_self w g cur e _ hg]
    simp [execOp, resolve, hρ _ _ hx, hρ _ _ hy, invoke, builtin, hrun, Result.andThen, goInt]
  · obtain ⟨g', off', rfl⟩ := hsrc.addr (by omega)
    obtain rfl := hdp (by omega)
    have hrun := run_copy_row (P := P) w dT sT ty elem g off dLen dCap ⟨g', off', none⟩ sLen sCap cur e cs hu hsz hg hn (fun j v hv => by
      have hadd : (⟨g', off', none⟩ : Addr).add j = ⟨g', off' + j, none⟩ := by unfold Addr.add; split <;> simp_all
      rw [hadd]
      exact hsrc.cell g' off' rfl w hw j v hv) hfit hsrc.one
    simp [execOp, resolve, hρ _ _ hx, hρ _ _ hy, invoke, builtin, hrun, Result.andThen, goInt, spl]

theorem run_append_of_nil (w : World) (base : Nat) (t ty e : TypeId) (i : TypeInfo) (size : Nat) (ht : P.underlying t = some (.slice e)) (hi : P.info? e = some i)
    (v : Value) (n : Nat) (xs : List Value) (hown : w.ownsRow base e size v n xs) (c : Nat) : (Builtin.append_ #[t, t] ty #[v, .slice none 0 c]).run P w = .ok v w := by
  rcases hown.2 with ⟨rfl, rfl⟩ | ⟨g, cap, cur, rfl, _, _, hnc, _⟩
  · simp [Builtin.append_, run_underlying ht, sizeOf, typeInfo, hi, Builtin.lenOf, Builtin.firstCells]
  · simp [Builtin.append_, run_underlying ht, sizeOf, typeInfo, hi, Builtin.lenOf, Builtin.firstCells, hnc, storeCells]

theorem SO_append {t e : TypeId} {x y : Operand} {z : Value} {sz bytes n m c : Nat} {v : Value} {xs news : List Value} {A : Option Addr} {R' : Value → List Asn}
    (hx : Ev L x v) (hy : Ev L y (.slice A m c)) (ht : P.underlying t = some (.slice e)) (hinfo : (P.info? e).map (fun i => (i.zero, i.size, i.bytes)) = some (some z, sz, bytes))
    (hzs : z.cells.size = sz) (hpos : 0 < sz) (hsrc : Sl w0 R sz A m news) (hrep : ∀ v', Rep R (own e sz v n xs) (own e sz v' (n + m) (xs ++ news)) (R' v'))
    (hb : (n + m) * bytes ≤ 140737488355328) (hb0 : n + m ≤ maxLen) :
    ∀ ρ, Rho L ρ → SO P w0 (execOp ρ ⟨d, .call ⟨.builtin .append, #[x, y], #[t, t]⟩, ty, pos, af, gd⟩) R (fun v' R'' => R'' = R' v') := by
  intro ρ hρ w hw
  obtain ⟨i0, hi, hzz⟩ := Option.map_eq_some_iff.1 hinfo
  simp only [Prod.mk.injEq] at hzz
  obtain ⟨hz0, hz1, hz2⟩ := hzz
  have hown : w.ownsRow 0 e sz v n xs := hw.ok _ (hrep v).mem
  have key : ∃ v' w', (Builtin.append_ #[t, t] ty #[v, .slice A m c]).run P w = .ok v' w' ∧ w'.ownsRow 0 e sz v' (n + m) (xs ++ news) ∧ w.grownBy w' v.ownBlock ∧ (v'.ownBlock = v.ownBlock ∨ v'.ownBlock = some w.heap.size) := by
    rcases A with _ | ⟨g, off, sp⟩
    · have hm : m = 0 := by
        rcases Nat.eq_zero_or_pos m with h0 | h0
        · exact h0
        · obtain ⟨g, off, h⟩ := hsrc.addr h0
          cases h
      subst hm
      have hn : news = [] := List.eq_nil_of_length_eq_zero (by simpa using hsrc.len)
      subst hn
      have hc : (Builtin.append_ #[t, t] ty #[v, .slice none 0 c]).run P w = .ok v w := run_append_of_nil w 0 t ty e i0 sz ht hi v n xs hown c
      exact ⟨v, w, hc, by simpa using hown, World.grownBy.refl w _, .inl rfl⟩
    · have hcells : ∀ j u, news[j]? = some u → w.cell? ((⟨g, off, sp⟩ : Addr).add j) = some u := by
        intro j u hu
        have hm : 0 < m := by
          rcases Nat.eq_zero_or_pos m with h0 | h0
          · subst h0
            have hn : news = [] := List.eq_nil_of_length_eq_zero (by simpa using hsrc.len)
            subst hn
            simp at hu
          · exact h0
        obtain ⟨g', off', e'⟩ := hsrc.addr hm
        injection e' with e'
        injection e' with e1 e2 e3
        subst e1 e2 e3
        have hadd : (⟨g, off, none⟩ : Addr).add j = ⟨g, off + j, none⟩ := by unfold Addr.add; split <;> simp_all
        rw [hadd]
        exact hsrc.cell g off rfl w hw j u hu
      obtain ⟨v', w', hrun, h2, h3, _, h5⟩ := run_append_own_at (P := P) w 0 t ty e i0 z sz bytes ht hi hz0 hz1 hz2 hzs hpos v n xs hown ⟨g, off, sp⟩ m c news hsrc.len hcells hsrc.one hb0 hb (Nat.zero_le _)
      exact ⟨v', w', hrun, h2, h3, h5⟩
  obtain ⟨v', w', hrun, h2, h3, h4⟩ := key
  obtain ⟨i, hi', hR'⟩ := (hrep v').idx
  refine ⟨v', w', R' v', .inl ⟨_, rfl, ?_⟩, ?_, rfl⟩
  · simp [execOp, resolve, hρ _ _ hx, hρ _ _ hy, invoke, builtin, hrun, Result.andThen]
  · rw [hR']
    refine hw.step hi' h3.os h3.tape h3.output h3.size (fun k hk hf => h3.block k hk (fun e => hf e.symm)) h2 ?_
    intro k hk
    have hk' : v'.ownBlock = some k := hk
    refine ⟨?_, (h2.lt k hk').2⟩
    rcases h4 with h4 | h4
    · exact .inl (h4.symm.trans hk')
    · rw [h4] at hk'
      injection hk' with hk'
      exact .inr (by omega)
/-- Bytes' cells. -/
def u8C (l : List UInt8) : List Value := l.map fun b => .int .u8 (b.toNat : Int)
theorem u8C_length (l : List UInt8) : (u8C l).length = l.length := by simp [u8C]
theorem u8C_one (l : List UInt8) : ∀ u ∈ u8C l, u.oneCell' = true := by
  intro u hu
  obtain ⟨b, _, rfl⟩ := List.mem_map.1 hu
  rfl
theorem u8C_append (l m : List UInt8) : u8C (l ++ m) = u8C l ++ u8C m := by simp [u8C]
theorem u8C_drop (l : List UInt8) (n : Nat) : (u8C l).drop n = u8C (l.drop n) := by simp [u8C, List.map_drop]
theorem u8C_take (l : List UInt8) (n : Nat) : (u8C l).take n = u8C (l.take n) := by simp [u8C, List.map_take]
theorem QV_str {s t e : TypeId} {x : Operand} {A : Option Addr} {n c : Nat} {l : List UInt8} (hx : Ev L x (.slice A n c)) (hn : n = l.length) (hs : P.underlying s = some (.slice e)) (he : P.underlying e = some (.int .u8)) (hd : P.underlying t = some .string)
    (hsl : Sl w0 R 1 A n (u8C l)) : ∀ ρ, Rho L ρ → QV P w0 (execOp ρ ⟨d, .convert s t x, ty, pos, af, gd⟩) R (.string ⟨l.toArray⟩) := by
  subst hn
  refine QV_conv hx fun w hw => ?_
  rcases A with _ | ⟨g, off, sp⟩
  · have h0 : l = [] := by
      rcases Nat.eq_zero_or_pos l.length with h | h
      · exact List.eq_nil_of_length_eq_zero h
      · obtain ⟨g, off, h⟩ := hsl.addr h
        cases h
    subst h0
    exact run_convert_bytes_nil w s e hs he _ c t hd
  · refine run_convert_bytes_back w s t e ⟨g, off, sp⟩ c l hs he hd fun j hj => ?_
    obtain ⟨g', off', h⟩ := hsl.addr (by omega)
    injection h with h
    injection h with h1 h2 h3
    subst h1 h2 h3
    have hadd : (⟨g, off, none⟩ : Addr).add j = ⟨g, off + j, none⟩ := by unfold Addr.add; split <;> simp_all
    rw [hadd]
    exact hsl.cell g off rfl w hw j _ (by simp [u8C, hj])
theorem QV_eqS {t t' : TypeId} {x y : Operand} {a b : List UInt8} (hx : Ev L x (.string ⟨a.toArray⟩)) (hy : Ev L y (.string ⟨b.toArray⟩)) :
    ∀ ρ, Rho L ρ → QV P w0 (execOp ρ ⟨d, .binOp .eql t x y t', ty, pos, af, gd⟩) R (.bool (decide (a = b))) := by
  refine QV_bin hx hy fun w => ?_
  simp [eqGuard, binOp, Op.stringOp]
  by_cases h : a = b
  · subst h; simp
  · simp [h]
/-- A literal's bytes are marked. -/
theorem SO_mark {t e : TypeId} {x : Operand} {g n c : Nat} {C : Array Value} {R' : List Asn} (hx : Ev L x (.slice (some ⟨g, 0, none⟩) n c)) (ht : P.underlying t = some (.slice e)) (he : P.underlying e = some (.int .u8))
    (hm : Upd R g (.cells C e (0, 0)) (.cells C e (C.size, C.size + 1)) R') :
    ∀ ρ, Rho L ρ → SO P w0 (execOp ρ ⟨d, .convert t t x, ty, pos, af, gd⟩) R (fun v R'' => v = .slice (some ⟨g, 0, none⟩) n c ∧ R'' = R') := by
  intro ρ hρ w hw
  obtain ⟨i, hi, rfl⟩ := hm.idx
  have hg := hw.get (List.mem_of_getElem? hi)
  have hlt : g < w.heap.size := (Array.getElem?_eq_some_iff.1 hg).1
  have hsh : w.shape? g = some (e, C.size) := by simp [World.shape?, hg]
  have h1 : (w.freeze ⟨g, C.size, none⟩ 1).heap[g]? = some (.cells C e (C.size, C.size + 1)) := by
    simp [World.freeze, Array.getElem?_modify, hg]
  refine ⟨_, w.freeze ⟨g, C.size, none⟩ 1, _, .inl ⟨_, rfl, ?_⟩, hw.setAt hi (by simp [World.freeze]) (by simp [World.freeze]) (by simp [World.freeze]) (by simp [World.freeze]) (fun k hk => by simp [World.freeze, Array.getElem?_modify, Ne.symm hk]) h1, rfl, rfl⟩
  simp [execOp, hρ _ _ hx, convert, run_underlying ht, run_underlying he, markStringish, hsh, Result.andThen]
end
end Go.Hw
