/- The hidden world: a region that draws its order. An operation that yields its value in every world that Rd holds of may be taken first; the others are branched over. Own work; after the kit's laws on orders. Program-independent. -/
import Derived.Test.YtcilfoicoambhaaFwOps
import Derived.OrdersHeld
set_option linter.unusedVariables false
set_option linter.unusedSimpArgs false
namespace Go.Hw
open Go Go.RowKit

section
variable {F : Fence} {n : Nat} {P : Program} {ops : Array Oper} {Q : Exit → Act → World → Prop} {md : Region.Mode} {S : World → Prop}

def noDefer (ops : Array Oper) : Bool := ops.all fun o => notDefer o.op
theorem noDefer_spec {j : Nat} {o : Oper} (h : noDefer ops = true) (hj : ops[j]? = some o) : ∀ c, o.op ≠ .defer c := by
  have hm : o ∈ ops := Array.mem_of_getElem? hj
  exact notDefer_ne (by simpa using (Array.all_eq_true_iff_forall_mem.1 h) o hm)

def YieldsS (F : Fence) (P : Program) (ops : Array Oper) (S : World → Prop) (o : Oper) (v : Value) (a : Act) : Prop :=
  YieldsIf P ops S o v a ∧ (∀ f, F.fn f)

theorem YieldsS.wpOpIn {i : Nat} {o : Oper} {v : Value} {a : Act} (hi : ops[i]? = some o) (hd : ∀ c, o.op ≠ .defer c) (hy : YieldsS F P ops S o v a)
    {K : Act → World → Prop} {w : World} (hS : S w) (h : K (a.put o.dst v) w) : wpOpIn F n P ops Q i K a w := by
  unfold Go.wpOpIn
  simp only [hi]
  rcases hy.1 with ⟨hw, hv⟩ | ⟨hw, rfl⟩
  · simp only [hw, if_true, Oper.wpIn, Oper.semAt_eq _ _ _ hd, hv w hS, Oper.uponIn]
    exact ⟨fun f _ => hy.2 f, h⟩
  · simp only [hw, Bool.false_eq_true, if_false]
    exact ⟨fun f _ => hy.2 f, h⟩

theorem wpOpIn_putS {j : Nat} {oi oj : Oper} {v : Value} (hj : ops[j]? = some oj) (hd : ∀ c, oj.op ≠ .defer c) (hap : oi.apart ops oj = true)
    (hsi : ∀ cs b, oi.op ≠ .select cs b) (hsj : ∀ cs b, oj.op ≠ .select cs b)
    (hQ : ∀ c a w, Q (.panic c) (a.put oi.dst v) w → Q (.panic c) a w) {K : Act → World → Prop} {a : Act} {w : World}
    (hy : YieldsS F P ops S oi v a) (h : wpOpIn F n P ops Q j K (a.put oi.dst v) w) :
    wpOpIn F n P ops Q j (fun a' w' => YieldsS F P ops S oi v a' ∧ K (a'.put oi.dst v) w') a w := by
  obtain ⟨h1, h2, h3⟩ := Oper.apart_spec hap
  have keep : ∀ (a : Act), YieldsS F P ops S oi v a → ∀ u, YieldsS F P ops S oi v (a.put oj.dst u) := fun a hy u =>
    ⟨hy.1.of_same (execOp_put oi hsi a oj.dst u h3) (wanted_put oi a oj.dst u h3), hy.2⟩
  unfold wpOpIn at *
  simp only [hj] at *
  rw [wanted_put oj a oi.dst v h1] at h
  split
  · rename_i hw
    simp only [hw, if_true] at h
    unfold Oper.wpIn at *
    refine ⟨fun f _ => hy.2 f, ?_⟩
    have h := h.2
    rw [Oper.semAt_eq _ _ _ hd, execOp_put oj hsj a oi.dst v h1] at h
    rw [Oper.semAt_eq _ _ _ hd]
    generalize (execOp a.eval oj).run P w = r at *
    cases r with
    | ok x w' =>
      cases x <;> simp only [Oper.uponIn] at h ⊢
      case value u => exact ⟨keep a hy u, by rw [← Act.put_comm a v u h2]; exact h⟩
      case skip => exact ⟨keep a hy _, by rw [← Act.put_comm a v undef h2]; exact h⟩
      case defer d =>
        refine ⟨?_, ?_⟩
        · have hy' : YieldsS F P ops S oi v { a with defers := d :: a.defers } := ⟨hy.1.of_same rfl rfl, hy.2⟩
          exact keep _ hy' _
        · rw [← Act.put_comm _ v undef h2, ← Act.put_defers]
          exact h
      case enter f args =>
        refine ⟨h.1, CallsIn.mono h.2 fun e w'' he => ?_⟩
        cases e with
        | returned u => exact ⟨keep a hy u, by rw [← Act.put_comm a v u h2]; exact he⟩
        | panicked c => exact hQ _ _ _ he
        | outgrown => exact he
      case row row args => exact ⟨h.1, RowsIn.mono h.2 fun u w'' he => ⟨keep a hy u, by rw [← Act.put_comm a v u h2]; exact he⟩⟩
      case round l f tmps assign body =>
        refine ⟨h.1, RoundIn.mono h.2 fun e w'' he => ?_⟩
        cases e with
        | returned u => exact ⟨keep a hy u, by rw [← Act.put_comm a v u h2]; exact he⟩
        | panicked c => exact hQ _ _ _ he
        | outgrown => exact he
    | halt x w' =>
      cases x <;> simp only [Oper.uponIn] at h ⊢
      case panic u => exact hQ _ _ _ h
  · rename_i hw
    simp only [hw] at h
    exact ⟨fun f _ => hy.2 f, keep a hy _, by rw [← Act.put_comm a v undef h2]; exact h.2⟩

def isPure : Op → Bool
  | .move _ => true
  | .binOp .. => true
  | .unOp .. => true
  | .pick .. => true
  | .extract .. => true
  | .convert .. => true
  | .fieldAddr .. => true
  | .indexAddr .. => true
  | .assign _ => true
  | _ => false
def isMove (ops : Array Oper) (i : Nat) : Bool := match ops[i]? with
  | some o => isPure o.op
  | none => false
def wpAnyS (F : Fence) (n : Nat) (P : Program) (md : Region.Mode) (ops : Array Oper) (Q : Exit → Act → World → Prop) (q : Nat) (S : World → Prop) : Nat → Array Bool → Act → World → Prop
  | 0, listed, a, w => Region.ready md ops listed = [] ∧ Q .normal a w
  | fuel + 1, listed, a, w =>
    (Region.ready md ops listed = [] → Q .normal a w) ∧
    ∀ i ∈ Region.ready md ops listed, wpOpIn F n P ops Q i (fun a' w' => (i < q → (isMove ops i = true → S w) → S w') ∧ wpAnyS F n P md ops Q q S fuel (listed.setIfInBounds i true) a' w') a w

theorem wpAnyIn_of_S {q : Nat} : ∀ (fuel : Nat) (listed : Array Bool) (a : Act) (w : World), wpAnyS F n P md ops Q q S fuel listed a w → wpAnyIn F n P md ops Q fuel listed a w
  | 0, _, _, _, h => h
  | fuel + 1, _, _, _, h => ⟨h.1, fun i hi => wpOpIn_mono (fun a' w' h' => wpAnyIn_of_S fuel _ a' w' h'.2) (h.2 i hi)⟩

/-- What is listed was listed in order. -/
def Down (md : Region.Mode) (ops : Array Oper) (listed : Array Bool) : Prop := ∀ (k : Nat) (o : Oper), ops[k]? = some o → listed.getD k false = true → ∀ e ∈ o.after, Region.binds md e = true → listed.getD e.on false = true
def reachB (md : Region.Mode) (ops : Array Oper) : Nat → Nat → Nat → Bool
  | 0, _, _ => false
  | f + 1, j, i => match ops[j]? with
    | some o => o.after.any fun e => Region.binds md e && (e.on == i || reachB md ops f e.on i)
    | none => false
theorem reachB_listed {listed : Array Bool} (hd : Down md ops listed) : ∀ (f j i : Nat) (o : Oper), ops[j]? = some o → (∀ e ∈ o.after, Region.binds md e = true → listed.getD e.on false = true) → reachB md ops f j i = true → listed.getD i false = true
  | 0, _, _, _, _, _, h => by simp [reachB] at h
  | f + 1, j, i, o, ho, hall, h => by
    simp only [reachB, ho, Array.any_eq_true] at h
    obtain ⟨k, hk, h⟩ := h
    simp only [Bool.and_eq_true, Bool.or_eq_true] at h
    have hl := hall _ (Array.getElem_mem hk) h.1
    rcases h.2 with h2 | h2
    · have e : (o.after[k]).on = i := by simpa using h2
      rw [e] at hl
      exact hl
    · cases ho' : ops[(o.after[k]).on]? with
      | none =>
        cases f with
        | zero => simp [reachB] at h2
        | succ f => simp [reachB, ho'] at h2
      | some o' => exact reachB_listed hd f _ i o' ho' (hd _ o' ho' hl) h2
theorem getD_set_self {listed : Array Bool} {i : Nat} (h : listed.getD i true = false) : (listed.setIfInBounds i true).getD i false = true := by
  rcases Nat.lt_or_ge i listed.size with h' | h'
  · simp [Array.getD, h']
  · simp [Array.getD, Nat.not_lt.2 h'] at h
theorem Down.set {listed : Array Bool} {i : Nat} (hd : Down md ops listed) (hr : i ∈ Region.ready md ops listed) : Down md ops (listed.setIfInBounds i true) := by
  obtain ⟨h0, o, ho, hall⟩ := mem_ready.1 hr
  intro k ok hk hl e he hb
  by_cases hki : k = i
  · subst hki
    rw [ho] at hk
    injection hk with hk
    subst hk
    exact getD_set_true (hall e he hb)
  · rw [getD_set_ne false (Ne.symm hki)] at hl
    exact getD_set_true (hd k ok hk hl e he hb)
theorem Down.none (n : Nat) : Down md ops (Array.replicate n false) := by
  intro k o hk hl
  exfalso
  simp [Array.getD] at hl
def lastOK (md : Region.Mode) (ops : Array Oper) (q i : Nat) : Bool := decide (i < q) && (List.range (ops.size - q)).all fun d => reachB md ops 9 (q + d) i
theorem wpAnyS_first {q i : Nat} {oi : Oper} {v : Value} (hi : ops[i]? = some oi) (hnd : noDefer ops = true) (hsel : ∀ (j : Nat) (o : Oper) cs b, ops[j]? = some o → o.op ≠ .select cs b)
    (hQ : ∀ c a w, Q (.panic c) (a.put oi.dst v) w → Q (.panic c) a w) (hlast : lastOK md ops q i = true) :
    ∀ (fuel : Nat) (listed : Array Bool) (a : Act) (w : World),
      (∀ j oj, ops[j]? = some oj → j ≠ i → listed.getD j true = false → (∀ e ∈ oj.after, Region.binds md e = true → e.on ≠ i) → oi.apart ops oj = true) →
      Down md ops listed → i ∈ Region.ready md ops listed → YieldsS F P ops S oi v a → S w →
      wpAnyS F n P md ops Q q S fuel (listed.setIfInBounds i true) (a.put oi.dst v) w → wpAnyS F n P md ops Q q S (fuel + 1) listed a w := by
  intro fuel
  induction fuel with
  | zero =>
    intro listed a w _ hdn hr hy hS H
    refine ⟨fun h => (by rw [h] at hr; cases hr), fun j hj => ?_⟩
    by_cases hji : j = i
    · subst hji; exact hy.wpOpIn hi (noDefer_spec hnd hi) hS ⟨fun _ _ => hS, H⟩
    · have := ready_mono hj hji
      rw [H.1] at this
      cases this
  | succ fuel ih =>
    intro listed a w hfree hdn hr hy hS H
    refine ⟨fun h => (by rw [h] at hr; cases hr), fun j hj => ?_⟩
    by_cases hji : j = i
    · subst hji; exact hy.wpOpIn hi (noDefer_spec hnd hi) hS ⟨fun _ _ => hS, H⟩
    · have h1 := H.2 j (ready_mono hj hji)
      obtain ⟨hjun, oj, hoj, hall⟩ := mem_ready.1 hj
      have hnot : ∀ e ∈ oj.after, Region.binds md e = true → e.on ≠ i := fun e he hb heq => by
        have h1 := hall e he hb
        have h0 := (mem_ready.1 hr).1
        rw [heq] at h1
        rcases Nat.lt_or_ge i listed.size with h' | h'
        · simp [h'] at h0 h1; rw [h0] at h1; cases h1
        · simp [Array.getElem?_eq_none h'] at h1
      have hjq : j < q := by
        refine Nat.lt_of_not_le fun hqj => ?_
        simp only [lastOK, Bool.and_eq_true, List.all_eq_true, List.mem_range] at hlast
        have hj' : j < ops.size := (Array.getElem?_eq_some_iff.1 hoj).1
        have h2 := hlast.2 (j - q) (by omega)
        rw [show q + (j - q) = j by omega] at h2
        have h1 := reachB_listed hdn 9 _ i oj hoj hall h2
        have h0 := (mem_ready.1 hr).1
        rcases Nat.lt_or_ge i listed.size with h' | h'
        · simp [h'] at h0 h1; rw [h0] at h1; cases h1
        · simp [Array.getElem?_eq_none h'] at h1
      have h2 := wpOpIn_putS hoj (noDefer_spec hnd hoj) (hfree j oj hoj hji hjun hnot) (fun cs b => hsel i oi cs b hi) (fun cs b => hsel j oj cs b hoj) hQ hy h1
      have hfree' : ∀ k ok, ops[k]? = some ok → k ≠ i → (listed.setIfInBounds j true).getD k true = false →
          (∀ e ∈ ok.after, Region.binds md e = true → e.on ≠ i) → oi.apart ops ok = true := fun k ok hk hki hun hno => by
        refine hfree k ok hk hki ?_ hno
        by_cases hjk : j = k
        · subst hjk; exact hjun
        · rw [getD_set_ne true hjk] at hun; exact hun
      refine wpOpIn_mono (fun a' w' h3 => ⟨h3.2.1, ih (listed.setIfInBounds j true) a' w' hfree' (hdn.set hj) (ready_mono hr (Ne.symm hji)) h3.1 (h3.2.1 hjq (fun _ => hS)) ?_⟩) h2
      rw [Array.setIfInBounds_comm _ _ hji]
      exact h3.2.2

/-- A move may be taken first whatever the memory. -/
theorem wpAnyS_move {q i : Nat} {oi : Oper} {v : Value} (hi : ops[i]? = some oi) (hnd : noDefer ops = true) (hsel : ∀ (j : Nat) (o : Oper) cs b, ops[j]? = some o → o.op ≠ .select cs b)
    (hQ : ∀ c a w, Q (.panic c) (a.put oi.dst v) w → Q (.panic c) a w) (hmv : isMove ops i = true) :
    ∀ (fuel : Nat) (listed : Array Bool) (a : Act) (w : World),
      (∀ j oj, ops[j]? = some oj → j ≠ i → listed.getD j true = false → (∀ e ∈ oj.after, Region.binds md e = true → e.on ≠ i) → oi.apart ops oj = true) →
      Down md ops listed → i ∈ Region.ready md ops listed → YieldsS F P ops (fun _ => True) oi v a →
      wpAnyS F n P md ops Q q S fuel (listed.setIfInBounds i true) (a.put oi.dst v) w → wpAnyS F n P md ops Q q S (fuel + 1) listed a w := by
  intro fuel
  induction fuel with
  | zero =>
    intro listed a w _ hdn hr hy H
    refine ⟨fun h => (by rw [h] at hr; cases hr), fun j hj => ?_⟩
    by_cases hji : j = i
    · subst hji; exact hy.wpOpIn hi (noDefer_spec hnd hi) trivial ⟨fun _ h => h hmv, H⟩
    · have := ready_mono hj hji
      rw [H.1] at this
      cases this
  | succ fuel ih =>
    intro listed a w hfree hdn hr hy H
    refine ⟨fun h => (by rw [h] at hr; cases hr), fun j hj => ?_⟩
    by_cases hji : j = i
    · subst hji; exact hy.wpOpIn hi (noDefer_spec hnd hi) trivial ⟨fun _ h => h hmv, H⟩
    · have h1 := H.2 j (ready_mono hj hji)
      obtain ⟨hjun, oj, hoj, hall⟩ := mem_ready.1 hj
      have hnot : ∀ e ∈ oj.after, Region.binds md e = true → e.on ≠ i := fun e he hb heq => by
        have h1 := hall e he hb
        have h0 := (mem_ready.1 hr).1
        rw [heq] at h1
        rcases Nat.lt_or_ge i listed.size with h' | h'
        · simp [h'] at h0 h1; rw [h0] at h1; cases h1
        · simp [Array.getElem?_eq_none h'] at h1
      have h2 := wpOpIn_putS hoj (noDefer_spec hnd hoj) (hfree j oj hoj hji hjun hnot) (fun cs b => hsel i oi cs b hi) (fun cs b => hsel j oj cs b hoj) hQ hy h1
      have hfree' : ∀ k ok, ops[k]? = some ok → k ≠ i → (listed.setIfInBounds j true).getD k true = false →
          (∀ e ∈ ok.after, Region.binds md e = true → e.on ≠ i) → oi.apart ops ok = true := fun k ok hk hki hun hno => by
        refine hfree k ok hk hki ?_ hno
        by_cases hjk : j = k
        · subst hjk; exact hjun
        · rw [getD_set_ne true hjk] at hun; exact hun
      refine wpOpIn_mono (fun a' w' h3 => ⟨h3.2.1, ih (listed.setIfInBounds j true) a' w' hfree' (hdn.set hj) (ready_mono hr (Ne.symm hji)) h3.1 ?_⟩) h2
      rw [Array.setIfInBounds_comm _ _ hji]
      exact h3.2.2

end

/-! ### The moves, the world hidden -/
section
variable {P : Program} {w0 : World} {ro : Option Nat} {K : Post} {L : List Value} {ds : List Deferred} {ops : Array Oper}

/-- Whatever order is picked from here on; Rd is what the quiet operations read, X what the others may turn. -/
def DA (P : Program) (w0 : World) (ro : Option Nat) (ops : Array Oper) (K : Post) (q : Nat) (Rd : List Asn) (fuel : Nat) (listed : Array Bool) (a : Act) (X : List Asn) : Prop :=
  Down .any ops listed → ∀ w, Holds w0 (X ++ Rd) w → wpAnyS (Fz ro) 0 P .any ops (hid w0 K) q (fun w => Holds w0 Rd w) fuel listed a w

theorem HC_draw {id : Nat} {a : Act} (q : Nat) (X Rd : List Asn) {n : Nat} (hm : P.follows .mixedOrders = true) (hn : ops.size = n)
    (h : DA P w0 ro ops K q Rd n (Array.replicate n false) a X) : HC P w0 ro (.region id ops true) K a (X ++ Rd) := by
  intro w hw
  refine wpIn_region_any hm (wpAnyIn_of_S (q := q) (S := fun w => Holds w0 Rd w) _ _ _ _ ?_)
  rw [hn]
  exact h (Down.none n) _ (hw.drawn _)

theorem DA_take {q : Nat} {Rd X : List Asn} {fuel i d : Nat} {listed : Array Bool} {op : Op} {ty : TypeId} {pos : String} {af : Array Edge} {g : Option (Nat × Bool)} {v : Value}
    (hi : ops[i]? = some ⟨some d, op, ty, pos, af, g⟩) (hc : (noDefer ops && Region.noSelect ops && Region.free .any ops listed i && (Region.ready .any ops listed).contains i && lastOK .any ops q i) = true)
    (hp : ∀ c a a' R, K (.panic c) a R → K (.panic c) a' R) (hw : Region.wanted ⟨some d, op, ty, pos, af, g⟩ (yielded ops L.toArray) = true)
    (hq : ∀ ρ, Rho L ρ → QV P w0 (execOp ρ ⟨some d, op, ty, pos, af, g⟩) Rd v)
    (k : DA P w0 ro ops K q Rd fuel (listed.setIfInBounds i true) ⟨(L.set d v).toArray, ds⟩ X) : DA P w0 ro ops K q Rd (fuel + 1) listed ⟨L.toArray, ds⟩ X := by
  intro hdn w hR
  simp only [Bool.and_eq_true] at hc
  obtain ⟨⟨⟨⟨h1, h2⟩, h3⟩, h4⟩, h5⟩ := hc
  have hS : Holds w0 Rd w := hR.sub (List.sublist_append_right _ _)
  have := k (hdn.set (by simpa using h4)) w hR
  refine wpAnyS_first hi h1 (Region.noSelect_spec h2) ?_ h5 fuel listed _ w (Region.free_spec hi h3) hdn (by simpa using h4) (v := v) ⟨.inl ⟨hw, fun w' hw' => hq _ (fun x u h => h ds) w' hw'⟩, Fz_fn ro⟩ hS ?_
  · rintro c a w ⟨R, hR, hK⟩
    exact ⟨R, hR, hp _ _ _ _ hK⟩
  · simpa [Act.put] using this

theorem DA_move {q : Nat} {Rd X : List Asn} {fuel i d : Nat} {listed : Array Bool} {x : Operand} {ty : TypeId} {pos : String} {af : Array Edge} {g : Option (Nat × Bool)} {v : Value}
    (hi : ops[i]? = some ⟨some d, .move x, ty, pos, af, g⟩) (hc : (noDefer ops && Region.noSelect ops && Region.free .any ops listed i && (Region.ready .any ops listed).contains i) = true)
    (hp : ∀ c a a' R, K (.panic c) a R → K (.panic c) a' R) (hw : Region.wanted ⟨some d, .move x, ty, pos, af, g⟩ (yielded ops L.toArray) = true) (hx : Ev L x v)
    (k : DA P w0 ro ops K q Rd fuel (listed.setIfInBounds i true) ⟨(L.set d v).toArray, ds⟩ X) : DA P w0 ro ops K q Rd (fuel + 1) listed ⟨L.toArray, ds⟩ X := by
  intro hdn w hR
  simp only [Bool.and_eq_true] at hc
  obtain ⟨⟨⟨h1, h2⟩, h3⟩, h4⟩ := hc
  have := k (hdn.set (by simpa using h4)) w hR
  refine wpAnyS_move hi h1 (Region.noSelect_spec h2) ?_ (by simp [isMove, isPure, hi]) fuel listed _ w (Region.free_spec hi h3) hdn (by simpa using h4) (v := v)
    ⟨.inl ⟨hw, fun w' _ => by have h := hx ds; simp only [execOp, h]; rfl⟩, Fz_fn ro⟩ ?_
  · rintro c a w ⟨R, hR, hK⟩
    exact ⟨R, hR, hp _ _ _ _ hK⟩
  · simpa [Act.put] using this

/-- An operation that yields its value in every world may be taken first whatever the memory. -/
theorem DA_pure {q : Nat} {Rd X : List Asn} {fuel i d : Nat} {listed : Array Bool} {op : Op} {ty : TypeId} {pos : String} {af : Array Edge} {g : Option (Nat × Bool)} {v : Value}
    (hi : ops[i]? = some ⟨some d, op, ty, pos, af, g⟩) (hc : (noDefer ops && Region.noSelect ops && Region.free .any ops listed i && (Region.ready .any ops listed).contains i && isPure op) = true)
    (hp : ∀ c a a' R, K (.panic c) a R → K (.panic c) a' R) (hw : Region.wanted ⟨some d, op, ty, pos, af, g⟩ (yielded ops L.toArray) = true)
    (hq : ∀ (w1 : World), ∀ ρ, Rho L ρ → QV P w1 (execOp ρ ⟨some d, op, ty, pos, af, g⟩) [] v)
    (k : DA P w0 ro ops K q Rd fuel (listed.setIfInBounds i true) ⟨(L.set d v).toArray, ds⟩ X) : DA P w0 ro ops K q Rd (fuel + 1) listed ⟨L.toArray, ds⟩ X := by
  intro hdn w hR
  simp only [Bool.and_eq_true] at hc
  obtain ⟨⟨⟨⟨h1, h2⟩, h3⟩, h4⟩, h5⟩ := hc
  have := k (hdn.set (by simpa using h4)) w hR
  refine wpAnyS_move hi h1 (Region.noSelect_spec h2) ?_ (by simp [isMove, hi, h5]) fuel listed _ w (Region.free_spec hi h3) hdn (by simpa using h4) (v := v)
    ⟨.inl ⟨hw, fun w' _ => hq w' _ (fun x u h => h ds) w' (Holds.nil w')⟩, Fz_fn ro⟩ ?_
  · rintro c a w ⟨R, hR, hK⟩
    exact ⟨R, hR, hp _ _ _ _ hK⟩
  · simpa [Act.put] using this

/-- Likewise one that its guard leaves out. -/
theorem DA_skip {q : Nat} {Rd X : List Asn} {fuel i d : Nat} {listed : Array Bool} {op : Op} {ty : TypeId} {pos : String} {af : Array Edge} {g : Option (Nat × Bool)}
    (hi : ops[i]? = some ⟨some d, op, ty, pos, af, g⟩) (hc : (noDefer ops && Region.noSelect ops && Region.free .any ops listed i && (Region.ready .any ops listed).contains i && lastOK .any ops q i) = true)
    (hp : ∀ c a a' R, K (.panic c) a R → K (.panic c) a' R) (hw : Region.wanted ⟨some d, op, ty, pos, af, g⟩ (yielded ops L.toArray) = false)
    (k : DA P w0 ro ops K q Rd fuel (listed.setIfInBounds i true) ⟨(L.set d undef).toArray, ds⟩ X) : DA P w0 ro ops K q Rd (fuel + 1) listed ⟨L.toArray, ds⟩ X := by
  intro hdn w hR
  simp only [Bool.and_eq_true] at hc
  obtain ⟨⟨⟨⟨h1, h2⟩, h3⟩, h4⟩, h5⟩ := hc
  have hS : Holds w0 Rd w := hR.sub (List.sublist_append_right _ _)
  have := k (hdn.set (by simpa using h4)) w hR
  refine wpAnyS_first hi h1 (Region.noSelect_spec h2) ?_ h5 fuel listed _ w (Region.free_spec hi h3) hdn (by simpa using h4) (v := undef) ⟨.inr ⟨hw, rfl⟩, Fz_fn ro⟩ hS ?_
  · rintro c a w ⟨R, hR, hK⟩
    exact ⟨R, hR, hp _ _ _ _ hK⟩
  · simpa [Act.put] using this

/-- One that may come up now, and what follows it. -/
def DB (P : Program) (w0 : World) (ro : Option Nat) (ops : Array Oper) (K : Post) (q : Nat) (Rd : List Asn) (fuel : Nat) (listed : Array Bool) (a : Act) (X : List Asn) (i : Nat) : Prop :=
  Down .any ops (listed.setIfInBounds i true) → ∀ w, Holds w0 (X ++ Rd) w → wpOpIn (Fz ro) 0 P ops (hid w0 K) i (fun a' w' => (i < q → (isMove ops i = true → Holds w0 Rd w) → Holds w0 Rd w') ∧ wpAnyS (Fz ro) 0 P .any ops (hid w0 K) q (fun w => Holds w0 Rd w) fuel (listed.setIfInBounds i true) a' w') a w

theorem DA_one {q : Nat} {Rd X : List Asn} {fuel i : Nat} {listed : Array Bool} {a : Act} (hr : Region.ready .any ops listed = [i]) (h : DB P w0 ro ops K q Rd fuel listed a X i) : DA P w0 ro ops K q Rd (fuel + 1) listed a X :=
  fun hdn w hw => ⟨fun h0 => (by rw [hr] at h0; cases h0), fun j hj => by have hd := hdn.set hj; rw [hr] at hj; rw [List.mem_singleton.1 hj] at hd ⊢; exact h hd w hw⟩
theorem DA_two {q : Nat} {Rd X : List Asn} {fuel i i' : Nat} {listed : Array Bool} {a : Act} (hr : Region.ready .any ops listed = [i, i']) (h : DB P w0 ro ops K q Rd fuel listed a X i) (h' : DB P w0 ro ops K q Rd fuel listed a X i') : DA P w0 ro ops K q Rd (fuel + 1) listed a X :=
  fun hdn w hw => ⟨fun h0 => (by rw [hr] at h0; cases h0), fun j hj => by
    have hd := hdn.set hj
    rw [hr] at hj
    rcases List.mem_cons.1 hj with rfl | hj
    · exact h hd w hw
    · rw [List.mem_singleton.1 hj] at hd ⊢; exact h' hd w hw⟩
theorem DA_three {q : Nat} {Rd X : List Asn} {fuel i i' i'' : Nat} {listed : Array Bool} {a : Act} (hr : Region.ready .any ops listed = [i, i', i'']) (h : DB P w0 ro ops K q Rd fuel listed a X i) (h' : DB P w0 ro ops K q Rd fuel listed a X i')
    (h'' : DB P w0 ro ops K q Rd fuel listed a X i'') : DA P w0 ro ops K q Rd (fuel + 1) listed a X :=
  fun hdn w hw => ⟨fun h0 => (by rw [hr] at h0; cases h0), fun j hj => by
    have hd := hdn.set hj
    rw [hr] at hj
    rcases List.mem_cons.1 hj with rfl | hj
    · exact h hd w hw
    · rcases List.mem_cons.1 hj with rfl | hj
      · exact h' hd w hw
      · rw [List.mem_singleton.1 hj] at hd ⊢; exact h'' hd w hw⟩
theorem DA_done {q : Nat} {Rd X : List Asn} {fuel : Nat} {listed : Array Bool} {a : Act} (hr : Region.ready .any ops listed = []) (h : K .normal a (X ++ Rd)) : DA P w0 ro ops K q Rd fuel listed a X := by
  intro _ w hw
  cases fuel with
  | zero => exact ⟨hr, _, hw, h⟩
  | succ f => exact ⟨fun _ => ⟨_, hw, h⟩, by rw [hr]; simp⟩

theorem DB_s {q : Nat} {Rd X : List Asn} {fuel i : Nat} {d : Option Nat} {listed : Array Bool} {op : Op} {ty : TypeId} {pos : String} {af : Array Edge} {g : Option (Nat × Bool)} {N : Value → List Asn → Prop}
    (hi : ops[i]? = some ⟨d, op, ty, pos, af, g⟩) (hw : Region.wanted ⟨d, op, ty, pos, af, g⟩ (yielded ops L.toArray) = true) (hnd : notDefer op = true)
    (hs : ∀ ρ, Rho L ρ → SO P w0 (execOp ρ ⟨d, op, ty, pos, af, g⟩) (X ++ Rd) N)
    (k : ∀ v R', N v R' → ∃ X', R' = X' ++ Rd ∧ DA P w0 ro ops K q Rd fuel (listed.setIfInBounds i true) ⟨(match d with | some d => L.set d v | none => L).toArray, ds⟩ X') :
    DB P w0 ro ops K q Rd fuel listed ⟨L.toArray, ds⟩ X i := by
  intro hdn w hR
  unfold wpOpIn
  simp only [hi]
  rw [if_pos hw]
  refine ⟨about_fz, ?_⟩
  rw [Oper.semAt_eq _ _ _ (notDefer_ne hnd)]
  obtain ⟨v, w', R', hr, hR', hN⟩ := hs _ (fun x u h => h ds) w hR
  obtain ⟨X', rfl, hk⟩ := k v R' hN
  have := hk hdn w' hR'
  have hS : Holds w0 Rd w' := hR'.sub (List.sublist_append_right _ _)
  rcases hr with ⟨_, rfl, hr⟩ | ⟨rfl, hr⟩
  · rw [hr]
    cases d <;> exact ⟨fun _ _ => hS, by simpa [Act.put] using this⟩
  · rw [hr]
    cases d <;> exact ⟨fun _ _ => hS, by simpa [Act.put] using this⟩

theorem wpAnyS_cut {q q1 : Nat} {S S1 : World → Prop} {Q : Exit → Act → World → Prop} : ∀ (fuel : Nat) (listed : Array Bool) (a : Act) (w : World), (∀ k, k < q → listed.getD k true = true) →
    wpAnyS (Fz ro) 0 P .any ops Q q1 S1 fuel listed a w → wpAnyS (Fz ro) 0 P .any ops Q q S fuel listed a w
  | 0, _, _, _, _, h => h
  | fuel + 1, listed, a, w, hl, h => ⟨h.1, fun i hi => wpOpIn_mono (fun a' w' h' => ⟨fun hq _ => (by
      have h0 := (mem_ready.1 hi).1
      rw [hl i hq] at h0
      cases h0), wpAnyS_cut fuel _ a' w' (fun k hk => (by
        by_cases hik : i = k
        · subst hik
          have h0 := (mem_ready.1 hi).1
          rw [hl _ hk] at h0
          cases h0
        · rw [getD_set_ne true hik]; exact hl k hk)) h'.2⟩) (h.2 i hi)⟩
/-- All that reads is listed: from here on any memory may be turned. -/
theorem DA_cut {Rd X R' : List Asn} {fuel q q1 : Nat} {listed : Array Bool} {a : Act} (hc : (List.range q).all (fun k => listed.getD k true) = true) (he : X ++ Rd = R')
    (h : DA P w0 ro ops K q1 [] fuel listed a R') : DA P w0 ro ops K q Rd fuel listed a X := by
  intro hd w hw
  subst he
  have h1 := h hd w (by rw [List.append_nil]; exact hw)
  exact wpAnyS_cut fuel listed a w (fun k hk => by simpa using List.all_eq_true.1 hc k (List.mem_range.2 hk)) h1
theorem DA_end {X : List Asn} {fuel q : Nat} {listed : Array Bool} {a : Act} (hr : Region.ready .any ops listed = []) (h : K .normal a X) : DA P w0 ro ops K q [] fuel listed a X := by
  have h' : K .normal a (X ++ []) := by rw [List.append_nil]; exact h
  exact DA_done hr h'
theorem DB_z {X : List Asn} {fuel i q : Nat} {d : Option Nat} {listed : Array Bool} {op : Op} {ty : TypeId} {pos : String} {af : Array Edge} {g : Option (Nat × Bool)} {N : Value → List Asn → Prop}
    (hi : ops[i]? = some ⟨d, op, ty, pos, af, g⟩) (hw : Region.wanted ⟨d, op, ty, pos, af, g⟩ (yielded ops L.toArray) = true) (hnd : notDefer op = true)
    (hs : ∀ ρ, Rho L ρ → SO P w0 (execOp ρ ⟨d, op, ty, pos, af, g⟩) X N)
    (k : ∀ v R', N v R' → DA P w0 ro ops K q [] fuel (listed.setIfInBounds i true) ⟨(match d with | some d => L.set d v | none => L).toArray, ds⟩ R') :
    DB P w0 ro ops K q [] fuel listed ⟨L.toArray, ds⟩ X i :=
  DB_s hi hw hnd (by rw [List.append_nil]; exact hs) (fun v R' hN => ⟨R', (List.append_nil _).symm, k v R' hN⟩)
theorem DB_zq {X : List Asn} {fuel i d q : Nat} {listed : Array Bool} {op : Op} {ty : TypeId} {pos : String} {af : Array Edge} {g : Option (Nat × Bool)} {v : Value}
    (hi : ops[i]? = some ⟨some d, op, ty, pos, af, g⟩) (hw : Region.wanted ⟨some d, op, ty, pos, af, g⟩ (yielded ops L.toArray) = true) (hnd : notDefer op = true)
    (hq : ∀ ρ, Rho L ρ → QV P w0 (execOp ρ ⟨some d, op, ty, pos, af, g⟩) X v)
    (k : DA P w0 ro ops K q [] fuel (listed.setIfInBounds i true) ⟨(L.set d v).toArray, ds⟩ X) :
    DB P w0 ro ops K q [] fuel listed ⟨L.toArray, ds⟩ X i :=
  DB_z hi hw hnd (N := fun u R' => u = v ∧ R' = X) (fun ρ hρ w hw => ⟨v, w, X, .inl ⟨_, rfl, hq ρ hρ w hw⟩, hw, rfl, rfl⟩) (by rintro _ _ ⟨rfl, rfl⟩; exact k)
theorem DB_alloc {q : Nat} {Rd X : List Asn} {fuel i d : Nat} {listed : Array Bool} {t : TypeId} {ty : TypeId} {pos : String} {af : Array Edge} {g : Option (Nat × Bool)} {z : Value} {cs : Array Value}
    (hi : ops[i]? = some ⟨some d, .alloc t, ty, pos, af, g⟩) (hw : Region.wanted ⟨some d, .alloc t, ty, pos, af, g⟩ (yielded ops L.toArray) = true)
    (hz : ∀ w, (zeroValue t).run P w = .ok z w) (hcs : z.cells = cs)
    (k : ∀ g, DA P w0 ro ops K q Rd fuel (listed.setIfInBounds i true) ⟨(L.set d (.pointer (some ⟨g, 0, none⟩))).toArray, ds⟩ (pt g (.cells cs t (0, 0)) :: X)) :
    DB P w0 ro ops K q Rd fuel listed ⟨L.toArray, ds⟩ X i :=
  DB_s hi hw rfl (SO_alloc hz hcs) (by rintro _ _ ⟨g, rfl, rfl⟩; exact ⟨pt g _ :: X, rfl, k g⟩)
theorem DB_box {q : Nat} {Rd X : List Asn} {fuel i d : Nat} {listed : Array Bool} {t : TypeId} {x : Operand} {ty : TypeId} {pos : String} {af : Array Edge} {g : Option (Nat × Bool)} {v : Value} {cs : Array Value}
    (hi : ops[i]? = some ⟨some d, .box t x, ty, pos, af, g⟩) (hw : Region.wanted ⟨some d, .box t x, ty, pos, af, g⟩ (yielded ops L.toArray) = true)
    (hx : Ev L x v) (hcs : v.cells = cs)
    (k : ∀ g, DA P w0 ro ops K q Rd fuel (listed.setIfInBounds i true) ⟨(L.set d (.pointer (some ⟨g, 0, none⟩))).toArray, ds⟩ (pt g (.cells cs t (0, 0)) :: X)) :
    DB P w0 ro ops K q Rd fuel listed ⟨L.toArray, ds⟩ X i :=
  DB_s hi hw rfl (SO_box hx hcs) (by rintro _ _ ⟨g, rfl, rfl⟩; exact ⟨pt g _ :: X, rfl, k g⟩)
theorem Upd.left {X X' Rd : List Asn} {g : Nat} {o o' : Obj} (h : Upd X g o o' X') : Upd (X ++ Rd) g o o' (X' ++ Rd) := by
  induction h with
  | head => exact Upd.head
  | tail _ ih => exact Upd.tail ih
  | at_ h =>
    rename_i g i o o' R
    have hi : i < R.length := (List.getElem?_eq_some_iff.1 h).1
    rw [← List.set_append_left _ _ hi]
    exact Upd.at_ (by rw [List.getElem?_append_left hi]; exact h)
theorem DB_store {q : Nat} {Rd X X' : List Asn} {fuel i : Nat} {listed : Array Bool} {t : TypeId} {x y : Operand} {ty : TypeId} {pos : String} {af : Array Edge} {gd : Option (Nat × Bool)}
    {g off n : Nat} {v : Value} {vs : List Value} {cs : Array Value} {e : TypeId}
    (hi : ops[i]? = some ⟨none, .store t x y, ty, pos, af, gd⟩) (hw : Region.wanted ⟨none, .store t x y, ty, pos, af, gd⟩ (yielded ops L.toArray) = true)
    (hx : Ev L x (.pointer (some ⟨g, off, none⟩))) (hy : Ev L y v)
    (hs : ∀ w, (sizeOf t).run P w = .ok n w) (hvs : v.cells = vs.toArray) (hn : vs.length = n) (h1 : vs.all (·.oneCell') = true)
    (hm : Upd X g (.cells cs e (0, 0)) (.cells (spl cs off vs) e (0, 0)) X') (hfit : off + vs.length ≤ cs.size)
    (k : DA P w0 ro ops K q Rd fuel (listed.setIfInBounds i true) ⟨L.toArray, ds⟩ X') :
    DB P w0 ro ops K q Rd fuel listed ⟨L.toArray, ds⟩ X i :=
  DB_s hi hw rfl (SO_store hx hy hs hvs hn h1 hm.left hfit) (by rintro _ _ ⟨rfl, rfl⟩; exact ⟨X', rfl, k⟩)

/-- A quiet operation that is not taken first. -/
theorem DB_q {q : Nat} {Rd X : List Asn} {fuel i d : Nat} {listed : Array Bool} {op : Op} {ty : TypeId} {pos : String} {af : Array Edge} {g : Option (Nat × Bool)} {v : Value}
    (hi : ops[i]? = some ⟨some d, op, ty, pos, af, g⟩) (hw : Region.wanted ⟨some d, op, ty, pos, af, g⟩ (yielded ops L.toArray) = true) (hnd : notDefer op = true)
    (hq : ∀ ρ, Rho L ρ → QV P w0 (execOp ρ ⟨some d, op, ty, pos, af, g⟩) (X ++ Rd) v)
    (k : DA P w0 ro ops K q Rd fuel (listed.setIfInBounds i true) ⟨(L.set d v).toArray, ds⟩ X) :
    DB P w0 ro ops K q Rd fuel listed ⟨L.toArray, ds⟩ X i :=
  DB_s hi hw hnd (N := fun u R' => u = v ∧ R' = X ++ Rd) (fun ρ hρ w hw => ⟨v, w, X ++ Rd, .inl ⟨_, rfl, hq ρ hρ w hw⟩, hw, rfl, rfl⟩) (by rintro _ _ ⟨rfl, rfl⟩; exact ⟨X, rfl, k⟩)

theorem DB_call {q : Nat} {Rd X : List Asn} {fuel i : Nat} {d : Option Nat} {listed : Array Bool} {c : Call} {ty : TypeId} {pos : String} {af : Array Edge} {g : Option (Nat × Bool)} {f : FuncId} {args : Array Value} {Φ : Value → List Asn → Prop}
    (hi : ops[i]? = some ⟨d, .call c, ty, pos, af, g⟩) (hw : Region.wanted ⟨d, .call c, ty, pos, af, g⟩ (yielded ops L.toArray) = true)
    (en : ∀ args w, (callFunc f args).run P w = .ok (.enter f args) w)
    (hc : ∀ ρ, (∀ x u, Ev L x u → ρ x = u) → ∀ w, (do let dd ← resolve ρ c ty; invoke dd.target dd.args).run P w = (callFunc f args).run P w)
    (h : CH P w0 f args (X ++ Rd) Φ)
    (k : ∀ v R', Φ v R' → ∃ X', R' = X' ++ Rd ∧ DA P w0 ro ops K q Rd fuel (listed.setIfInBounds i true) ⟨(match d with | some d => L.set d v | none => L).toArray, ds⟩ X') :
    DB P w0 ro ops K q Rd fuel listed ⟨L.toArray, ds⟩ X i := by
  intro hdn w hR
  unfold wpOpIn
  simp only [hi]
  rw [if_pos hw]
  refine ⟨about_fz, ?_⟩
  rw [Oper.semAt_eq _ _ _ (notDefer_ne rfl)]
  have hrun : (execOp (⟨L.toArray, ds⟩ : Act).eval ⟨d, .call c, ty, pos, af, g⟩).run P w = .ok (.enter f args) w := by
    have := hc _ (fun x u h => h ds) w
    rw [en] at this
    exact this
  rw [hrun]
  refine ⟨fun hd => absurd hd (by rw [Fz_depth]; simp), Fz_calls ((h w hR).mono ?_)⟩
  rintro e w' ⟨v, R', rfl, hR', hΦ⟩
  obtain ⟨X', rfl, hk⟩ := k v R' hΦ
  have := hk hdn w' hR'
  have hS : Holds w0 Rd w' := hR'.sub (List.sublist_append_right _ _)
  cases d <;> exact ⟨fun _ _ => hS, by simpa [Act.put] using this⟩
theorem DB_zcall {X : List Asn} {fuel i q : Nat} {d : Option Nat} {listed : Array Bool} {c : Call} {ty : TypeId} {pos : String} {af : Array Edge} {g : Option (Nat × Bool)} {f : FuncId} {args : Array Value} {Φ : Value → List Asn → Prop}
    (hi : ops[i]? = some ⟨d, .call c, ty, pos, af, g⟩) (hw : Region.wanted ⟨d, .call c, ty, pos, af, g⟩ (yielded ops L.toArray) = true)
    (en : ∀ args w, (callFunc f args).run P w = .ok (.enter f args) w)
    (hc : ∀ ρ, (∀ x u, Ev L x u → ρ x = u) → ∀ w, (do let dd ← resolve ρ c ty; invoke dd.target dd.args).run P w = (callFunc f args).run P w)
    (h : CH P w0 f args X Φ)
    (k : ∀ v R', Φ v R' → DA P w0 ro ops K q [] fuel (listed.setIfInBounds i true) ⟨(match d with | some d => L.set d v | none => L).toArray, ds⟩ R') :
    DB P w0 ro ops K q [] fuel listed ⟨L.toArray, ds⟩ X i :=
  DB_call hi hw en hc (by rw [List.append_nil]; exact h) (fun v R' hN => ⟨R', (List.append_nil _).symm, k v R' hN⟩)
end
end Go.Hw
