/- The hidden world: resources that hold in a world, judgements over the kit's walk in a fence, a rule for each former of code. Own work; program-independent. -/
import Derived.CallsIn
import Derived.TacticsIn
import Derived.RangeFuncIn
import Derived.RangeFuncRecord
import Derived.RangeFuncLeaves
import Derived.RangeFuncCalls
import Derived.OrdersIn
import Derived.Below
import Derived.WalkKit
import Derived.Laws.NewBlocks
import Derived.Laws.AppendOwn
import Derived.Deep.Draws
import Derived.KernelRfl
set_option linter.unusedVariables false
set_option linter.unusedSimpArgs false
namespace Go.Hw
open Go Go.RowKit

/-- An assertion on some blocks of a world's heap. -/
structure Asn where
  fp : Nat → Prop
  ok : World → Prop
  loc : ∀ w w' : World, (∀ k, fp k → w'.heap[k]? = w.heap[k]?) → ok w → ok w'

/-- Block g holds just o. -/
def pt (g : Nat) (o : Obj) : Asn := ⟨fun k => k = g, fun w => w.heap[g]? = some o, fun _ _ h ho => (h g rfl).trans ho⟩

def Apart (A B : Asn) : Prop := ∀ k, A.fp k → B.fp k → False
theorem Apart.symm {A B : Asn} (h : Apart A B) : Apart B A := fun k a b => h k b a

/-- All of R holds in w, each apart from the others and above w0's heap; w0's memory lies as it lay. -/
structure Holds (w0 : World) (R : List Asn) (w : World) : Prop where
  os : w.os = w0.os
  tape : w.tape = w0.tape
  output : w.output = w0.output
  size : w0.heap.size ≤ w.heap.size
  old : ∀ k, k < w0.heap.size → w.heap[k]? = w0.heap[k]?
  ok : ∀ A, A ∈ R → A.ok w
  rng : ∀ A, A ∈ R → ∀ k, A.fp k → w0.heap.size ≤ k ∧ k < w.heap.size
  dis : R.Pairwise Apart

section
variable {w0 w : World} {R : List Asn}

theorem Holds.below (h : Holds w0 R w) : Below w0.heap.size w0 w := ⟨h.os, h.tape, h.output, h.size, h.old⟩
theorem Holds.nil (w : World) : Holds w [] w :=
  ⟨rfl, rfl, rfl, Nat.le_refl _, fun _ _ => rfl, fun _ h => absurd h List.not_mem_nil, fun _ h => absurd h List.not_mem_nil, List.Pairwise.nil⟩
theorem Holds.get (h : Holds w0 R w) {g : Nat} {o : Obj} (hm : pt g o ∈ R) : w.heap[g]? = some o := h.ok _ hm
/-- Less is known. -/
theorem Holds.sub {R' : List Asn} (h : Holds w0 R w) (hs : R'.Sublist R) : Holds w0 R' w :=
  ⟨h.os, h.tape, h.output, h.size, h.old, fun A hA => h.ok A (hs.subset hA), fun A hA => h.rng A (hs.subset hA), h.dis.sublist hs⟩
theorem Holds.perm {R' : List Asn} (h : Holds w0 R w) (hp : R'.Perm R) : Holds w0 R' w :=
  ⟨h.os, h.tape, h.output, h.size, h.old, fun A hA => h.ok A (hp.subset hA), fun A hA => h.rng A (hp.subset hA), (hp.symm.pairwise_iff (fun h => Apart.symm h)).1 h.dis⟩
theorem Holds.drewN (h : Holds w0 R w) (n : Nat) : Holds w0 R (w.drewN n) :=
  ⟨h.os, h.tape, h.output, h.size, h.old, fun A hA => A.loc w _ (fun _ _ => rfl) (h.ok A hA), h.rng, h.dis⟩
theorem Holds.drawn (h : Holds w0 R w) (n : Nat) : Holds w0 R { w with drawn := n } :=
  ⟨h.os, h.tape, h.output, h.size, h.old, fun A hA => A.loc w _ (fun _ _ => rfl) (h.ok A hA), h.rng, h.dis⟩
theorem Holds.alloc (h : Holds w0 R w) (o : Obj) : Holds w0 (pt w.heap.size o :: R) (w.alloc o) := by
  refine ⟨h.os, h.tape, h.output, Nat.le_trans h.size (by simp), fun k hk => (Below.heap_alloc w o k (Nat.lt_of_lt_of_le hk h.size)).trans (h.old k hk), ?_, ?_, ?_⟩
  · intro A hA
    rcases List.mem_cons.1 hA with rfl | hA
    · exact World.alloc_heap_new w o
    · exact A.loc w _ (fun k hk => Below.heap_alloc w o k (h.rng A hA k hk).2) (h.ok A hA)
  · intro A hA k hk
    rcases List.mem_cons.1 hA with rfl | hA
    · have : k = w.heap.size := hk
      have := h.size
      simp; omega
    · have := h.rng A hA k hk
      simp; omega
  · refine List.pairwise_cons.2 ⟨fun B hB k hk hk' => ?_, h.dis⟩
    have e : k = w.heap.size := hk
    have := (h.rng B hB k hk').2
    omega

/-- A world that differs at block g alone, which is in R at place i. -/
theorem Holds.setAt (h : Holds w0 R w) {i g : Nat} {o o' : Obj} (hi : R[i]? = some (pt g o)) {w' : World}
    (hos : w'.os = w.os) (htape : w'.tape = w.tape) (hout : w'.output = w.output) (hsz : w'.heap.size = w.heap.size) (hother : ∀ k, k ≠ g → w'.heap[k]? = w.heap[k]?) (hg : w'.heap[g]? = some o') :
    Holds w0 (R.set i (pt g o')) w' := by
  have hil : i < R.length := (List.getElem?_eq_some_iff.1 hi).1
  have hmem : pt g o ∈ R := List.mem_of_getElem? hi
  have hgr := h.rng _ hmem g rfl
  have hap : ∀ j B, R[j]? = some B → j ≠ i → ∀ k, B.fp k → k ≠ g := by
    intro j B hj hne k hk e
    subst e
    have hjl : j < R.length := (List.getElem?_eq_some_iff.1 hj).1
    have ej : R[j] = B := (List.getElem?_eq_some_iff.1 hj).2
    have ei : R[i] = pt k o := (List.getElem?_eq_some_iff.1 hi).2
    have hd := List.pairwise_iff_getElem.1 h.dis
    rcases Nat.lt_or_ge j i with hlt | hge
    · have := hd j i hjl hil hlt
      rw [ej, ei] at this
      exact this k hk rfl
    · have := hd i j hil hjl (by omega)
      rw [ej, ei] at this
      exact this k rfl hk
  refine ⟨hos.trans h.os, htape.trans h.tape, hout.trans h.output, by rw [hsz]; exact h.size, fun k hk => (hother k (by omega)).trans (h.old k hk), ?_, ?_, ?_⟩
  · intro A hA
    obtain ⟨j, hj⟩ := List.getElem?_of_mem hA
    rw [List.getElem?_set] at hj
    split at hj
    · cases hj; exact hg
    · rename_i hne
      exact A.loc w w' (fun k hk => hother k (hap j A hj (fun e => hne e.symm) k hk)) (h.ok A (List.mem_of_getElem? hj))
  · intro A hA k hk
    rw [hsz]
    obtain ⟨j, hj⟩ := List.getElem?_of_mem hA
    rw [List.getElem?_set] at hj
    split at hj
    · cases hj
      have e : k = g := hk
      rw [e]; exact hgr
    · exact h.rng A (List.mem_of_getElem? hj) k hk
  · rw [List.pairwise_iff_getElem]
    intro a b ha hb hab k hk hk'
    have hd := List.pairwise_iff_getElem.1 h.dis
    have ha' : a < R.length := by simpa using ha
    have hb' : b < R.length := by simpa using hb
    rw [List.getElem_set] at hk hk'
    have ei : R[i] = pt g o := (List.getElem?_eq_some_iff.1 hi).2
    have dab := hd a b ha' hb' hab k
    split at hk <;> split at hk'
    · omega
    · rename_i e1 e2
      subst e1
      exact dab (by rw [ei]; exact hk) hk'
    · rename_i e1 e2
      subst e2
      exact dab hk (by rw [ei]; exact hk')
    · exact dab hk hk'
end

/-- What holds of R holds of R' too. -/
def Le (w0 : World) (R R' : List Asn) : Prop := ∀ w, Holds w0 R w → Holds w0 R' w
theorem Le.refl {w0 : World} {R : List Asn} : Le w0 R R := fun _ h => h
theorem Le.sub {w0 : World} {R R' : List Asn} (h : R'.Sublist R) : Le w0 R R' := fun _ hw => hw.sub h
theorem Le.perm {w0 : World} {R R' : List Asn} (h : R'.Perm R) : Le w0 R R' := fun _ hw => hw.perm h
inductive Rm : List Asn → Asn → List Asn → Prop
  | head {A : Asn} {R : List Asn} : Rm (A :: R) A R
  | tail {A B : Asn} {R R' : List Asn} (h : Rm R A R') : Rm (B :: R) A (B :: R')
theorem Rm.perm {A : Asn} {R R' : List Asn} (h : Rm R A R') : R.Perm (A :: R') := by
  induction h with
  | head => exact List.Perm.refl _
  | tail _ ih => exact (List.Perm.cons _ ih).trans (List.Perm.swap _ _ _)
/-- Some of R, in another order. -/
def Sp (R' R : List Asn) : Prop := ∃ l : List Asn, l.Perm R' ∧ l.Sublist R
theorem Sp.refl {R : List Asn} : Sp R R := ⟨R, List.Perm.refl _, List.Sublist.refl _⟩
theorem Sp.nil {R : List Asn} : Sp [] R := ⟨[], List.Perm.refl _, List.nil_sublist _⟩
theorem Sp.drop {B : Asn} {R R' : List Asn} (h : Sp R' R) : Sp R' (B :: R) := by
  obtain ⟨l, h1, h2⟩ := h
  exact ⟨l, h1, h2.cons _⟩
theorem Sp.perm {R R1 R' : List Asn} (h : Sp R' R1) (hp : R1.Perm R) : Sp R' R := by
  obtain ⟨l, h1, h2⟩ := h
  obtain ⟨l', h3, h4⟩ := List.exists_perm_sublist h2 hp
  exact ⟨l', h3.trans h1, h4⟩
theorem Sp.pick {A : Asn} {R R1 R' : List Asn} (h : Rm R A R1) (k : Sp R' R1) : Sp (A :: R') R := by
  obtain ⟨l, h1, h2⟩ := k
  exact Sp.perm ⟨A :: l, h1.cons A, h2.cons_cons A⟩ h.perm.symm
theorem Le.of {w0 : World} {R R' : List Asn} (h : Sp R' R) : Le w0 R R' := by
  obtain ⟨l, h1, h2⟩ := h
  exact fun w hw => (hw.sub h2).perm h1.symm
theorem Le.trans {w0 : World} {R R' R'' : List Asn} (h : Le w0 R R') (k : Le w0 R' R'') : Le w0 R R'' := fun w hw => k w (h w hw)

/-! ### Judgements -/
def Fz : Option Nat → Fence
  | none => Fence.wide
  | some l => Fence.wide.inRound l
theorem Fz_fn (ro : Option Nat) (f : FuncId) : (Fz ro).fn f := by cases ro <;> trivial
theorem Fz_depth (ro : Option Nat) : (Fz ro).depth = none := by cases ro <;> rfl
theorem Fz_round (ro : Option Nat) : (Fz ro).round = ro := by cases ro <;> rfl
theorem Fz_calls {P : Program} {ro : Option Nat} {n : Nat} {f : FuncId} {args : Array Value} {w : World} {R : Ending → World → Prop} (h : Calls P f args w R) : CallsIn (Fz ro) n P f args w R := by
  cases ro with
  | none => exact callsIn_wide.2 h
  | some l => exact CallsIn.inRound l (callsIn_wide.2 h)

/-- What a post says of tmps, defers and resources, the world hidden. -/
abbrev Post := Exit → Act → List Asn → Prop
def hid (w0 : World) (K : Post) : Exit → Act → World → Prop := fun e a w => ∃ R, Holds w0 R w ∧ K e a R
def thenK (N : Act → List Asn → Prop) (K : Post) : Post
  | .normal, a, R => N a R
  | e, a, R => K e a R
def blockK (id : Nat) (K : Post) : Post
  | .exit id', a, R => if id' = id then K .normal a R else K (.exit id') a R
  | e, a, R => K e a R

/-- The code c, from the temporaries a and the resources R on. -/
def HC (P : Program) (w0 : World) (ro : Option Nat) (c : Code) (K : Post) (a : Act) (R : List Asn) : Prop :=
  ∀ w, Holds w0 R w → c.wpIn (Fz ro) 0 P (hid w0 K) a w
/-- The operations that are left of a region. -/
def HL (P : Program) (w0 : World) (ro : Option Nat) (ops : Array Oper) (K : Post) (l : List Oper) (a : Act) (R : List Asn) : Prop :=
  ∀ w, Holds w0 R w → wpListIn (Fz ro) 0 P ops (hid w0 K) l a w
/-- A computation. -/
def SV (P : Program) (w0 : World) {α : Type} (s : Sem α) (R : List Asn) (K : α → List Asn → Prop) : Prop :=
  ∀ w, Holds w0 R w → ∃ x w' R', s.run P w = .ok x w' ∧ Holds w0 R' w' ∧ K x R'
/-- A call. -/
def CH (P : Program) (w0 : World) (f : FuncId) (args : Array Value) (R : List Asn) (Φ : Value → List Asn → Prop) : Prop :=
  ∀ w, Holds w0 R w → Calls P f args w fun e w' => ∃ v R', e = .returned v ∧ Holds w0 R' w' ∧ Φ v R'

section
variable {P : Program} {w0 : World} {ro : Option Nat} {K : Post} {a : Act} {R : List Asn}

theorem HC_mono {c : Code} {K' : Post} (h : HC P w0 ro c K a R) (hk : ∀ e a R, K e a R → K' e a R) : HC P w0 ro c K' a R :=
  fun w hw => wpIn_mono (h w hw) fun e a w ⟨R, hR, hK⟩ => ⟨R, hR, hk e a R hK⟩
theorem HC_sub {c : Code} {R' : List Asn} (hs : R'.Sublist R) (h : HC P w0 ro c K a R') : HC P w0 ro c K a R := fun w hw => h w (hw.sub hs)
theorem HC_perm {c : Code} {R' : List Asn} (hs : R'.Perm R) (h : HC P w0 ro c K a R') : HC P w0 ro c K a R := fun w hw => h w (hw.perm hs)
theorem HL_sub {ops : Array Oper} {l : List Oper} {R' : List Asn} (hs : R'.Sublist R) (h : HL P w0 ro ops K l a R') : HL P w0 ro ops K l a R := fun w hw => h w (hw.sub hs)
theorem HL_perm {ops : Array Oper} {l : List Oper} {R' : List Asn} (hs : R'.Perm R) (h : HL P w0 ro ops K l a R') : HL P w0 ro ops K l a R := fun w hw => h w (hw.perm hs)

theorem HC_le {c : Code} {R' : List Asn} (hs : Le w0 R R') (h : HC P w0 ro c K a R') : HC P w0 ro c K a R := fun w hw => h w (hs w hw)
theorem HL_le {ops : Array Oper} {l : List Oper} {R' : List Asn} (hs : Le w0 R R') (h : HL P w0 ro ops K l a R') : HL P w0 ro ops K l a R := fun w hw => h w (hs w hw)
theorem HC_skip (h : K .normal a R) : HC P w0 ro .skip K a R := fun _ hw => wpIn_skip ⟨R, hw, h⟩
theorem HC_exit {id : Nat} (h : K (.exit id) a R) : HC P w0 ro (.exit id) K a R := fun _ hw => wpIn_exit ⟨R, hw, h⟩
theorem HC_ret (h : K .ret a R) : HC P w0 ro .ret K a R := fun _ hw => wpIn_ret ⟨R, hw, h⟩
theorem HC_seq {x y : Code} (h : ∀ N : Act → List Asn → Prop, (∀ a R, HC P w0 ro y K a R → N a R) → HC P w0 ro x (thenK N K) a R) : HC P w0 ro (.seq x y) K a R := by
  intro w hw
  refine wpIn_seq (wpIn_mono (h (fun a R => HC P w0 ro y K a R) (fun _ _ h => h) w hw) ?_)
  rintro e a' w' ⟨R', hR', hK⟩
  cases e with
  | normal => exact hK w' hR'
  | exit id => exact ⟨R', hR', hK⟩
  | goto l => exact ⟨R', hR', hK⟩
  | ret => exact ⟨R', hR', hK⟩
  | panic c => exact ⟨R', hR', hK⟩
  | outgrown => exact ⟨R', hR', hK⟩
theorem HC_cond {c : Operand} {x y : Code} {t : Bool} (hc : a.eval c = .bool t) (h1 : t = true → HC P w0 ro x K a R) (h2 : t = false → HC P w0 ro y K a R) : HC P w0 ro (.cond c x y) K a R := by
  intro w hw
  refine wpIn_cond_split hc (fun h => h1 h w hw) (fun h => h2 h w hw)
theorem HC_true {c : Operand} {x y : Code} (hc : a.eval c = .bool true) (h1 : HC P w0 ro x K a R) : HC P w0 ro (.cond c x y) K a R := HC_cond hc (fun _ => h1) (fun h => by cases h)
theorem HC_false {c : Operand} {x y : Code} (hc : a.eval c = .bool false) (h1 : HC P w0 ro y K a R) : HC P w0 ro (.cond c x y) K a R := HC_cond hc (fun h => by cases h) (fun _ => h1)
theorem HC_yes {c : Operand} {x y : Code} {t : Bool} (hc : a.eval c = .bool t) (ht : t = true) (h1 : HC P w0 ro x K a R) : HC P w0 ro (.cond c x y) K a R := HC_cond hc (fun _ => h1) (fun h => by rw [ht] at h; cases h)
theorem HC_no {c : Operand} {x y : Code} {t : Bool} (hc : a.eval c = .bool t) (ht : t = false) (h1 : HC P w0 ro y K a R) : HC P w0 ro (.cond c x y) K a R := HC_cond hc (fun h => by rw [ht] at h; cases h) (fun _ => h1)
theorem HC_block {id : Nat} {c : Code} (h : HC P w0 ro c (blockK id K) a R) : HC P w0 ro (.block id c) K a R := by
  intro w hw
  refine wpIn_block (wpIn_mono (h w hw) ?_)
  rintro e a' w' ⟨R', hR', hK⟩
  cases e with
  | exit id' =>
    by_cases hid' : id' = id
    · simp only [Exit.inBlock, hid', if_true]
      simp only [blockK, hid', if_true] at hK
      exact ⟨R', hR', hK⟩
    · simp only [Exit.inBlock, hid', if_false]
      simp only [blockK, hid', if_false] at hK
      exact ⟨R', hR', hK⟩
  | normal => exact ⟨R', hR', hK⟩
  | goto l => exact ⟨R', hR', hK⟩
  | ret => exact ⟨R', hR', hK⟩
  | panic c => exact ⟨R', hR', hK⟩
  | outgrown => exact ⟨R', hR', hK⟩

theorem wpIn_loop_ghost {F : Fence} {n : Nat} {Q : Exit → Act → World → Prop} {w : World} {c : Code} (I : Nat → Act → World → Prop) (g : Nat) (h₀ : I g a w)
    (round : ∀ g a w, I g a w → c.wpIn F n P (Exit.then (fun a' w' => ∃ g', g' < g ∧ I g' a' w') Q) a w) : (Code.loop c).wpIn F n P Q a w := by
  intro b k cs hro hb hr
  have key : ∀ j a w, I j a w →
      ∃ e a' w', Q e a' w' ∧ ArrivesIn (Machine.fenced P F) P (lone (b.atR a (.code c :: .inLoop c :: k)) cs w) b k cs e a' w' := by
    intro j
    induction j using Nat.strongRecOn with
    | _ j ih =>
      intro a w hI
      obtain ⟨e, a₁, w₁, hq, harr⟩ := round j a w hI b (.inLoop c :: k) cs hro hb hr
      cases e with
      | normal =>
        obtain ⟨g', hlt, hI₁⟩ := hq
        obtain ⟨e₂, a₂, w₂, hq₂, harr₂⟩ := ih g' hlt a₁ w₁ hI₁
        exact ⟨e₂, a₂, w₂, hq₂, .of_steps (StepsIn.trans harr (.one (fenced_calm hb hr rfl) stepR_inLoop)) harr₂⟩
      | exit id => exact ⟨_, a₁, w₁, hq, .pass (x := .inLoop c) rfl (fun _ _ => .inl (by simp)) harr⟩
      | goto l => exact ⟨_, a₁, w₁, hq, .pass (x := .inLoop c) rfl (fun _ _ => .inl (by simp)) harr⟩
      | ret => exact ⟨_, a₁, w₁, hq, .pass (x := .inLoop c) rfl (fun _ _ => .inl (by simp)) harr⟩
      | panic ch => exact ⟨_, a₁, w₁, hq, .pass (x := .inLoop c) rfl (fun _ _ => .inl (by simp)) harr⟩
      | outgrown => exact ⟨_, a₁, w₁, hq, .pass (x := .inLoop c) rfl (fun _ _ => .inl (by simp)) harr⟩
  obtain ⟨e, a', w', hq, harr⟩ := key g a w h₀
  exact ⟨e, a', w', hq, .of_steps (.one (fenced_calm hb hr rfl) stepR_loop) harr⟩

/-- The slots S hold vs. -/
def setL : List Value → List Nat → List Value → List Value
  | t, s :: S, v :: vs => setL (t.set s v) S vs
  | t, _, _ => t
/-- The slots that M marks hold whatever u says. -/
def fill : List Bool → Nat → List Value → (Nat → Value) → List Value
  | true :: m, k, _ :: l, u => u k :: fill m (k + 1) l u
  | false :: m, k, v :: l, u => v :: fill m (k + 1) l u
  | _, _, l, _ => l
/-- Alike, but for the slots that M marks. -/
inductive Ag : List Bool → List Value → List Value → Prop
  | nil {l : List Value} : Ag [] l l
  | any {m : List Bool} {v v' : Value} {l l' : List Value} (h : Ag m l l') : Ag (true :: m) (v :: l) (v' :: l')
  | keep {m : List Bool} {v : Value} {l l' : List Value} (h : Ag m l l') : Ag (false :: m) (v :: l) (v :: l')
theorem Ag.fillu {m : List Bool} {l l' : List Value} (h : Ag m l l') : ∀ (k : Nat) (u : Nat → Value), (∀ (i : Nat) v, l'[i]? = some v → u (k + i) = v) → fill m k l u = l' := by
  induction h with
  | nil => intro k u _; simp [Hw.fill]
  | any _ ih =>
    intro k u hu
    have h0 := hu 0 _ rfl
    simp only [Hw.fill]
    rw [ih (k + 1) u (fun i v hi => by have := hu (i + 1) v (by simpa using hi); rw [← this]; congr 1; omega)]
    rw [← h0]
    rfl
  | keep _ ih =>
    intro k u hu
    simp only [Hw.fill]
    rw [ih (k + 1) u (fun i v hi => by have := hu (i + 1) v (by simpa using hi); rw [← this]; congr 1; omega)]
theorem fill_self : ∀ (m : List Bool) (T : List Value) (k : Nat) (u : Nat → Value), (∀ (i : Nat) v, T[i]? = some v → u (k + i) = v) → fill m k T u = T
  | [], T, k, u, _ => by simp [fill]
  | b :: m, [], k, u, _ => by cases b <;> simp [fill]
  | b :: m, v :: T, k, u, hu => by
    have h := fill_self m T (k + 1) u (fun i v hi => by have := hu (i + 1) v (by simpa using hi); rw [← this]; congr 1; omega)
    have h0 : u k = v := hu 0 v rfl
    cases b <;> simp only [fill, h, h0]
theorem getD_u (T : List Value) (i : Nat) (v : Value) (h : T[i]? = some v) : T.getD (0 + i) undef = v := by simp [List.getD, h]

theorem setL_self (T : List Value) : ∀ S : List Nat, setL T S (S.map fun s => T.getD s undef) = T
  | [] => rfl
  | s :: S => by
    have e : T.set s (T.getD s undef) = T := by
      apply List.ext_getElem?
      intro i
      rw [List.getElem?_set]
      split
      · rename_i h
        subst h
        split
        · rename_i h'
          simp [List.getD, h']
        · rename_i h'
          simp [List.getElem?_eq_none (Nat.le_of_not_lt h')]
      · rfl
    show setL (T.set s (T.getD s undef)) S _ = T
    rw [e]
    exact setL_self T S

/-- A loop whose body writes the slots S and those that M marks, no others; g: a ghost number that every round lowers. -/
theorem HC_loop {c : Code} {T : List Value} {ds : List Deferred} (S : List Nat) (M : List Bool) (I : Nat → List Value → List Asn → Prop) (h0 : ∃ g R', Le w0 R R' ∧ I g (S.map fun s => T.getD s undef) R')
    (round : ∀ g vs R u, I g vs R → ∀ N : Act → List Asn → Prop, (∀ g' vs' L' R' R'', g' < g → Ag M (setL T S vs') L' → Le w0 R' R'' → I g' vs' R'' → N ⟨L'.toArray, ds⟩ R') →
      HC P w0 ro c (thenK N K) ⟨(fill M 0 (setL T S vs) u).toArray, ds⟩ R) : HC P w0 ro (.loop c) K ⟨T.toArray, ds⟩ R := by
  intro w hw
  obtain ⟨g, R', hle, h0⟩ := h0
  refine wpIn_loop_ghost (fun g a w => ∃ vs R u, a = ⟨(fill M 0 (setL T S vs) u).toArray, ds⟩ ∧ Holds w0 R w ∧ I g vs R) g
    ⟨_, R', fun k => T.getD k undef, by rw [setL_self, fill_self M T 0 _ (getD_u T)], hle w hw, h0⟩ ?_
  rintro g a w ⟨vs, R, u, rfl, hR, hI⟩
  refine wpIn_mono (round g vs R u hI (fun a' R' => ∃ g' vs' L' R'', g' < g ∧ a' = ⟨L'.toArray, ds⟩ ∧ Ag M (setL T S vs') L' ∧ Le w0 R' R'' ∧ I g' vs' R'')
    (fun g' vs' L' R' R'' hg ha hl hi => ⟨g', vs', L', R'', hg, rfl, ha, hl, hi⟩) w hR) ?_
  rintro e a' w' ⟨R', hR', hK⟩
  cases e with
  | normal =>
    obtain ⟨g', vs', L', R'', hlt, rfl, ha, hle, hI'⟩ := hK
    exact ⟨g', hlt, vs', R'', fun k => L'.getD k undef, by rw [ha.fillu 0 _ (getD_u L')], hle _ hR', hI'⟩
  | exit id => exact ⟨R', hR', hK⟩
  | goto l => exact ⟨R', hR', hK⟩
  | ret => exact ⟨R', hR', hK⟩
  | panic c => exact ⟨R', hR', hK⟩
  | outgrown => exact ⟨R', hR', hK⟩

/-- The ways through x meet again: it writes the slots S and those that M marks, no others. -/
theorem HC_mid {x y : Code} {T : List Value} {ds : List Deferred} (S : List Nat) (M : List Bool) (I : List Value → List Asn → Prop)
    (hx : ∀ N : Act → List Asn → Prop, (∀ vs' L' R' R'', Ag M (setL T S vs') L' → Le w0 R' R'' → I vs' R'' → N ⟨L'.toArray, ds⟩ R') → HC P w0 ro x (thenK N K) ⟨T.toArray, ds⟩ R)
    (hy : ∀ vs R' u, I vs R' → HC P w0 ro y K ⟨(fill M 0 (setL T S vs) u).toArray, ds⟩ R') : HC P w0 ro (.seq x y) K ⟨T.toArray, ds⟩ R := by
  refine HC_seq fun N hN => hx N ?_
  intro vs' L' R' R'' ha hle hi
  have := hN _ _ (HC_le hle (hy vs' R'' (fun k => L'.getD k undef) hi))
  rw [ha.fillu 0 _ (getD_u L')] at this
  exact this

/-- The ways through x and y meet again behind y. -/
theorem HC_mid2 {x y z : Code} {T : List Value} {ds : List Deferred} (S : List Nat) (M : List Bool) (I : List Value → List Asn → Prop)
    (hx : ∀ N : Act → List Asn → Prop, (∀ vs' L' R' R'', Ag M (setL T S vs') L' → Le w0 R' R'' → I vs' R'' → N ⟨L'.toArray, ds⟩ R') → HC P w0 ro x (thenK (fun a R => HC P w0 ro y (thenK N K) a R) K) ⟨T.toArray, ds⟩ R)
    (hy : ∀ vs R' u, I vs R' → HC P w0 ro z K ⟨(fill M 0 (setL T S vs) u).toArray, ds⟩ R') : HC P w0 ro (.seq x (.seq y z)) K ⟨T.toArray, ds⟩ R := by
  refine HC_seq fun N1 hN1 => ?_
  have h1 := hx (fun a R => HC P w0 ro z K a R) (by
    intro vs' L' R' R'' ha hle hi
    have := HC_le hle (hy vs' R'' (fun k => L'.getD k undef) hi)
    rw [ha.fillu 0 _ (getD_u L')] at this
    exact this)
  refine HC_mono h1 ?_
  intro e a R h
  cases e with
  | normal => exact hN1 _ _ (HC_seq fun N2 hN2 => HC_mono h (by
      intro e a R h
      cases e with
      | normal => exact hN2 _ _ h
      | _ => exact h))
  | _ => exact h

/-- What the slots hold. -/
inductive Gets (L : List Value) : List Nat → List Value → Prop
  | nil : Gets L [] []
  | cons {s : Nat} {v : Value} {S : List Nat} {vs : List Value} (h : L[s]? = some v) (k : Gets L S vs) : Gets L (s :: S) (v :: vs)
theorem meetM {N : Act → List Asn → Prop} {T : List Value} {S : List Nat} {M : List Bool} {I : List Value → List Asn → Prop} {ds : List Deferred} {L' : List Value} {R' R'' : List Asn} {vs' : List Value}
    (hM : ∀ vs' L' R' R'', Ag M (setL T S vs') L' → Le w0 R' R'' → I vs' R'' → N ⟨L'.toArray, ds⟩ R') (gets : Gets L' S vs') (ag : Ag M (setL T S vs') L') (le : Le w0 R' R'') (inv : I vs' R'') : N ⟨L'.toArray, ds⟩ R' := hM _ _ _ _ ag le inv
theorem againL {N : Act → List Asn → Prop} {T : List Value} {S : List Nat} {M : List Bool} {I : Nat → List Value → List Asn → Prop} {g g' : Nat} {ds : List Deferred} {L' : List Value} {R' R'' : List Asn} {vs' : List Value}
    (hM : ∀ g' vs' L' R' R'', g' < g → Ag M (setL T S vs') L' → Le w0 R' R'' → I g' vs' R'' → N ⟨L'.toArray, ds⟩ R') (gets : Gets L' S vs') (lt : g' < g) (ag : Ag M (setL T S vs') L') (le : Le w0 R' R'') (inv : I g' vs' R'') : N ⟨L'.toArray, ds⟩ R' := hM _ _ _ _ _ lt ag le inv

theorem HC_region {id : Nat} {l : List Oper} (h : HL P w0 ro l.toArray K l a R) : HC P w0 ro (.region id l.toArray false) K a R :=
  fun w hw => wpIn_region_lit (h w hw)

/-! ### a function's body -/
def Lv (P : Program) (w0 : World) (fn : Func) (tmps : Array Value) (Φ : Value → List Asn → Prop) : List Deferred → List Asn → Prop
  | [], R => ∃ v R', (∀ w, Holds w0 R w → (results fn tmps).run P w = .ok v w) ∧ Le w0 R R' ∧ Φ v R'
  | d :: ds, R => ∃ g R1, d = { target := .collected g, args := #[] } ∧ Le w0 R (pt g (.deferred (some [])) :: R1) ∧ Lv P w0 fn tmps Φ ds R1
def retK (P : Program) (w0 : World) (fn : Func) (Φ : Value → List Asn → Prop) : Post
  | .normal, a, R | .ret, a, R => Lv P w0 fn a.tmps Φ a.defers R
  | _, _, _ => False

theorem Lv_leaves {fn : Func} {tmps : Array Value} {Φ : Value → List Asn → Prop} : ∀ (ds : List Deferred) (R : List Asn) (w : World), Holds w0 R w → Lv P w0 fn tmps Φ ds R →
    LeavesInM Fence.wide 0 P fn tmps (fun e w' => ∃ v R', e = .returned v ∧ Holds w0 R' w' ∧ Φ v R') ds .returning w
  | [], R, w, hw, h => by
    obtain ⟨v, R', hr, hle, hΦ⟩ := h
    exact ⟨v, hr w hw, v, R', rfl, hle w hw, hΦ⟩
  | d :: ds, R, w, hw, h => by
    obtain ⟨g, R1, rfl, hle, hl⟩ := h
    have hw1 := hle w hw
    have hg := hw1.get (List.mem_cons_self ..)
    refine ⟨by simp, .inl ⟨g, _, rfl, run_takeDeferred hg, ?_⟩⟩
    have hlt : g < w.heap.size := (Array.getElem?_eq_some_iff.1 hg).1
    have h2 : Holds w0 (pt g (.deferred none) :: R1) (w.putObj g (.deferred none)) := hw1.setAt (i := 0) (o := .deferred (some [])) rfl rfl rfl rfl (by simp [World.putObj]) (fun k hk => World.putObj_heap_other hk) (World.putObj_heap_same hlt)
    exact Lv_leaves ds _ _ (h2.sub (List.sublist_cons_self _ _)) hl

theorem CH_of {f : FuncId} {fn : Func} {c : Code} {args : Array Value} {Φ : Value → List Asn → Prop} (hf : P.funcs[f]? = some fn) (hb : fn.body = some c)
    (h : ∀ K : Post, (∀ a R, Lv P w0 fn a.tmps Φ a.defers R → K .normal a R) → (∀ a R, Lv P w0 fn a.tmps Φ a.defers R → K .ret a R) → (∀ c a R, K (.panic c) a R → False) → HC P w0 none c K { tmps := args ++ Array.replicate (fn.ntmps - args.size) undef, defers := [] } R) : CH P w0 f args R Φ := by
  intro w hw
  refine callsIn_wide.1 (callsIn_of_wp_marks (F := Fence.wide) (n := 0) hf hb trivial (wpIn_mono (h (retK P w0 fn Φ) (fun _ _ h => h) (fun _ _ h => h) (fun _ _ _ h => h) w hw) ?_))
  rintro e a' w' ⟨R', hR', hK⟩
  cases e with
  | normal => exact Lv_leaves _ _ _ hR' hK
  | ret => exact Lv_leaves _ _ _ hR' hK
  | exit id => exact hK
  | goto l => exact hK
  | panic c => exact hK.elim
  | outgrown => exact hK.elim
theorem CH_mono {f : FuncId} {args : Array Value} {Φ Φ' : Value → List Asn → Prop} (h : CH P w0 f args R Φ) (hm : ∀ v R', Φ v R' → Φ' v R') : CH P w0 f args R Φ' :=
  fun w hw => (h w hw).mono fun _ _ ⟨v, R', e, hR, hΦ⟩ => ⟨v, R', e, hR, hm v R' hΦ⟩
/-- A contract with less in the end. -/
theorem CH_drop {f : FuncId} {args : Array Value} {Φ Φ' : Value → List Asn → Prop} (h : CH P w0 f args R Φ) (hm : ∀ v R', Φ v R' → ∃ R'', R''.Sublist R' ∧ Φ' v R'') : CH P w0 f args R Φ' :=
  fun w hw => (h w hw).mono fun _ _ ⟨v, R', e, hR, hΦ⟩ => by
    obtain ⟨R'', hs, h'⟩ := hm v R' hΦ
    exact ⟨v, R'', e, hR.sub hs, h'⟩
theorem CH_le {f : FuncId} {args : Array Value} {Φ : Value → List Asn → Prop} {R' : List Asn} (hs : Le w0 R R') (h : CH P w0 f args R' Φ) : CH P w0 f args R Φ := fun w hw => h w (hs w hw)
theorem CH_pull {f : FuncId} {args : Array Value} {Φ : Value → List Asn → Prop} {A : Asn} {R' : List Asn} (hs : Rm R A R') (h : CH P w0 f args (A :: R') Φ) : CH P w0 f args R Φ := fun w hw => h w (hw.perm hs.perm.symm)
theorem CH_pull2 {f : FuncId} {args : Array Value} {Φ : Value → List Asn → Prop} {A B : Asn} {R' R'' : List Asn} (hs : Rm R A R') (ht : Rm R' B R'') (h : CH P w0 f args (A :: B :: R'') Φ) : CH P w0 f args R Φ :=
  fun w hw => h w ((hw.perm hs.perm.symm).perm (ht.perm.symm.cons A))
theorem CH_pull3 {f : FuncId} {args : Array Value} {Φ : Value → List Asn → Prop} {A B C : Asn} {R1 R2 R3 : List Asn} (hs : Rm R A R1) (ht : Rm R1 B R2) (hu : Rm R2 C R3) (h : CH P w0 f args (A :: B :: C :: R3) Φ) : CH P w0 f args R Φ :=
  fun w hw => h w (((hw.perm hs.perm.symm).perm (ht.perm.symm.cons A)).perm ((hu.perm.symm.cons B).cons A))
theorem CH_pull4 {f : FuncId} {args : Array Value} {Φ : Value → List Asn → Prop} {A B C D : Asn} {R1 R2 R3 R4 : List Asn} (hs : Rm R A R1) (ht : Rm R1 B R2) (hu : Rm R2 C R3) (hv : Rm R3 D R4) (h : CH P w0 f args (A :: B :: C :: D :: R4) Φ) : CH P w0 f args R Φ :=
  fun w hw => h w ((((hw.perm hs.perm.symm).perm (ht.perm.symm.cons A)).perm ((hu.perm.symm.cons B).cons A)).perm (((hv.perm.symm.cons C).cons B).cons A))
theorem CH_sub {f : FuncId} {args : Array Value} {Φ : Value → List Asn → Prop} {R' : List Asn} (hs : R'.Sublist R) (h : CH P w0 f args R' Φ) : CH P w0 f args R Φ := fun w hw => h w (hw.sub hs)
theorem CH_perm {f : FuncId} {args : Array Value} {Φ : Value → List Asn → Prop} {R' : List Asn} (hs : R'.Perm R) (h : CH P w0 f args R' Φ) : CH P w0 f args R Φ := fun w hw => h w (hw.perm hs)
end
end Go.Hw
