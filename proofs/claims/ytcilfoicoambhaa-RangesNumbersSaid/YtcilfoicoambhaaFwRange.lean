/- The hidden world: a range over a function: the loop's record as a resource, a round, a call of yield, the statement. Own work; after the kit's laws on rounds. Program-independent. -/
import Derived.Test.YtcilfoicoambhaaFwStar
set_option linter.unusedVariables false
set_option linter.unusedSimpArgs false
namespace Go.Hw
open Go Go.RowKit

variable {P : Program} {w0 : World} {ro : Option Nat} {K : Post} {R : List Asn} {L : List Value} {ds : List Deferred} {ops : Array Oper}

/-- A loop's record. -/
abbrev lrec (l : Nat) (r : Loop) : Asn := pt l (.loop r)
/-- A round: yield l called with args. -/
def YS (P : Program) (w0 : World) (l : Nat) (args : Array Value) (R : List Asn) (Φ : Value → List Asn → Prop) : Prop :=
  ∀ w, Holds w0 R w → ∃ f tmps assign body, (Instr.yield l args).run P w = .ok (.round l f tmps assign body) w ∧
    RoundIn Fence.wide 0 P l f tmps assign body w (fun e w' => ∃ v R', e = .returned v ∧ Holds w0 R' w' ∧ Φ v R')

theorem YS_mono {l : Nat} {args : Array Value} {Φ Φ' : Value → List Asn → Prop} (h : YS P w0 l args R Φ) (hm : ∀ v R', Φ v R' → Φ' v R') : YS P w0 l args R Φ' := by
  intro w hw
  obtain ⟨f, tmps, assign, body, h1, h2⟩ := h w hw
  exact ⟨f, tmps, assign, body, h1, RoundIn.mono h2 fun e w' ⟨v, R', he, hR, hΦ⟩ => ⟨v, R', he, hR, hm v R' hΦ⟩⟩
theorem YS_le {l : Nat} {args : Array Value} {Φ : Value → List Asn → Prop} {R' : List Asn} (hs : Le w0 R R') (h : YS P w0 l args R' Φ) : YS P w0 l args R Φ := fun w hw => h w (hs w hw)
theorem YS_pull {l : Nat} {args : Array Value} {Φ : Value → List Asn → Prop} {A : Asn} {R' : List Asn} (hs : Rm R A R') (h : YS P w0 l args (A :: R') Φ) : YS P w0 l args R Φ := fun w hw => h w (hw.perm hs.perm.symm)
theorem YS_pull2 {l : Nat} {args : Array Value} {Φ : Value → List Asn → Prop} {A B : Asn} {R' R'' : List Asn} (hs : Rm R A R') (ht : Rm R' B R'') (h : YS P w0 l args (A :: B :: R'') Φ) : YS P w0 l args R Φ :=
  fun w hw => h w ((hw.perm hs.perm.symm).perm (ht.perm.symm.cons A))

theorem YS_post {l : Nat} {args : Array Value} {Φ Φ' : Value → List Asn → Prop} (h : YS P w0 l args R Φ) (hm : ∀ v R', Φ v R' → ∃ R'', Le w0 R' R'' ∧ Φ' v R'') : YS P w0 l args R Φ' := by
  intro w hw
  obtain ⟨f, tmps, assign, body, h1, h2⟩ := h w hw
  refine ⟨f, tmps, assign, body, h1, RoundIn.mono h2 fun e w' ⟨v, R', he, hR, hΦ⟩ => ?_⟩
  obtain ⟨R'', hle, hΦ'⟩ := hm v R' hΦ
  exact ⟨v, R'', he, hle _ hR, hΦ'⟩
/-- A round beside what it does not touch. -/
theorem YS_frame {l : Nat} {args : Array Value} {E X : List Asn} {u : Value → Prop} {Q : List Asn → Prop} (h : YS P w0 l args (X ++ E) (fun v R' => u v ∧ ∃ X', Q X' ∧ R' = X' ++ E)) :
    YS P w0 l args (E ++ X) (fun v R' => u v ∧ ∃ X', Q X' ∧ R' = E ++ X') := by
  refine YS_le (Le.perm List.perm_append_comm) (YS_post h ?_)
  rintro v R' ⟨hu, X', hQ, rfl⟩
  exact ⟨E ++ X', Le.perm List.perm_append_comm, hu, X', hQ, rfl⟩

/-- The temporaries of a round. -/
def roundT (ps : Array Tmp) (T : Array Value) (args : Array Value) : Array Value := (ps.zip args).foldl (fun tmps (t, a) => tmps.setIfInBounds t a) T
theorem roundT_one {i : Tmp} {T : List Value} {v : Value} : roundT #[i] T.toArray #[v] = (T.set i v).toArray := by simp [roundT]
theorem roundT_none {T : List Value} : roundT #[] T.toArray #[] = T.toArray := by simp [roundT]
/-- A loop's record that is ready, of which all is known but whose it is. -/
structure LoopIs (r : Loop) (L : List Value) (ps : Array Tmp) (assign body : Code) : Prop where
  state : r.state = .ready
  pending : r.pending = none
  tmps : r.tmps = L.toArray
  params : r.params = ps
  assign : r.assign = assign
  body : r.body = body
def lbusy (r : Loop) : Loop := { r with state := .busy }
def lleft (r : Loop) (c : Code) : Loop := { r with state := .done, pending := some c }
/-- What a round is to leave. -/
def RoundEnd (w0 : World) (l : Nat) (r : Loop) (Φ : Value → List Asn → Prop) (pd : Option Code) (R' : List Asn) : Prop :=
  ∃ R1, Le w0 R' (lrec l (lbusy r) :: R1) ∧ (match pd with | none => Φ (.bool true) (lrec l r :: R1) | some c => Φ (.bool false) (lrec l (lleft r c) :: R1))

theorem Holds.setHead {w : World} {g : Nat} {o o' : Obj} (h : Holds w0 (pt g o :: R) w) : Holds w0 (pt g o' :: R) (w.putObj g o') := by
  have hg := h.get (List.mem_cons_self ..)
  have hlt : g < w.heap.size := (Array.getElem?_eq_some_iff.1 hg).1
  exact h.setAt (i := 0) (o := o) (o' := o') rfl rfl rfl rfl (by simp) (fun k hk => World.putObj_heap_other hk) (World.putObj_heap_same hlt)

theorem YS_of {l : Nat} {r : Loop} {args : Array Value} {Φ : Value → List Asn → Prop} {T : List Value} {ps : Array Tmp} {assign body : Code} (hr : LoopIs r T ps assign body) (hs : args.size = ps.size)
    (h : ∀ K : Post, (∀ a R', RoundEnd w0 l r Φ none R' → K .normal a R') → (∀ a R', RoundEnd w0 l r Φ (some .ret) R' → K .ret a R') → (∀ id a R', RoundEnd w0 l r Φ (some (.exit id)) R' → K (.exit id) a R') → (∀ c a R, K (.panic c) a R → False) →
      HC P w0 (some l) assign (fun e a R1 => e = .normal ∧ ∃ R2, Le w0 R1 (lrec l r :: R2) ∧ HC P w0 (some l) body K a (lrec l (lbusy r) :: R2)) ⟨roundT ps T.toArray args, []⟩ (lrec l r :: R)) :
    YS P w0 l args (lrec l r :: R) Φ := by
  obtain ⟨hst, hpd, rfl', rfl, rfl, rfl⟩ := hr
  intro w hw
  have hl := hw.get (List.mem_cons_self ..)
  refine ⟨_, _, _, _, run_yield hl hs, roundIn_of_wpIn trivial ?_⟩
  have h1 := h (fun e a R' => match e with
    | .normal => RoundEnd w0 l r Φ none R'
    | .ret => RoundEnd w0 l r Φ (some .ret) R'
    | .exit id => RoundEnd w0 l r Φ (some (.exit id)) R'
    | _ => False) (fun _ _ h => h) (fun _ _ h => h) (fun _ _ _ h => h) (fun _ _ _ h => h) w hw
  rw [← rfl'] at h1
  have fin : ∀ (pd : Option Code) (R' : List Asn) (w' : World), Holds w0 R' w' → RoundEnd w0 l r Φ pd R' →
      ∃ v w2, (Instr.endRound l pd).run P w' = .ok v w2 ∧ ∃ v' R'', Ending.returned v = .returned v' ∧ Holds w0 R'' w2 ∧ Φ v' R'' := by
    rintro pd R' w' hR' ⟨R1, hle, hΦ⟩
    have hw' := hle w' hR'
    have hl' := hw'.get (List.mem_cons_self ..)
    cases pd with
    | none =>
      refine ⟨_, _, run_endRound none hl', _, _, rfl, hw'.setHead, ?_⟩
      have e : ({ lbusy r with state := if (none : Option Code).isNone then LoopState.ready else LoopState.done, pending := none } : Loop) = r := by
        cases r
        simp only [lbusy] at hst hpd ⊢
        subst hst hpd
        rfl
      rw [e]
      exact hΦ
    | some c => exact ⟨_, _, run_endRound (some c) hl', _, _, rfl, hw'.setHead, hΦ⟩
  refine wpIn_mono h1 ?_
  rintro e a1 w1 ⟨R1, hR1, rfl, R2, hle, hbody⟩
  have hw1 := hle w1 hR1
  have hl1 := hw1.get (List.mem_cons_self ..)
  refine ⟨_, run_beginRound hl1 hst, ?_⟩
  refine wpIn_mono (hbody _ hw1.setHead) ?_
  rintro e a2 w2 ⟨R', hR', hK⟩
  cases e with
  | normal => exact fin none R' w2 hR' hK
  | ret => exact fin (some .ret) R' w2 hR' hK
  | exit id => exact fin (some (.exit id)) R' w2 hR' hK
  | goto t => exact hK.elim
  | panic c => exact hK.elim
  | outgrown => exact hK.elim

/-- yield is called. -/
theorem HL_yield {d : Option Nat} {x : Operand} {args : Array Operand} {tys : Array TypeId} {ty : TypeId} {pos : String} {af : Array Edge} {g : Option (Nat × Bool)} {rest : List Oper} {l : Nat} {vs : List Value} {Φ : Value → List Asn → Prop}
    (hw : Region.wanted ⟨d, .call ⟨.value x, args, tys⟩, ty, pos, af, g⟩ (yielded ops L.toArray) = true)
    (hx : Ev L x (.func (.yield l) #[] #[])) (ha : Evs L args vs) (h : YS P w0 l vs.toArray R Φ)
    (k : ∀ v R', Φ v R' → HL P w0 none ops K rest ⟨(match d with | some d => L.set d v | none => L).toArray, ds⟩ R') : HL P w0 none ops K (⟨d, .call ⟨.value x, args, tys⟩, ty, pos, af, g⟩ :: rest) ⟨L.toArray, ds⟩ R := by
  intro w hR
  unfold wpListIn
  rw [if_pos hw]
  refine ⟨about_fz, ?_⟩
  rw [Oper.semAt_eq _ _ _ (notDefer_ne rfl)]
  obtain ⟨f, tmps, assign, body, hy, hround⟩ := h w hR
  have hrun : (execOp (⟨L.toArray, ds⟩ : Act).eval ⟨d, .call ⟨.value x, args, tys⟩, ty, pos, af, g⟩).run P w = .ok (.round l f tmps assign body) w := by
    have h1 := hx ds
    have h2 := ha _ (fun x u h => h ds)
    simp only [execOp, resolve, h1, h2]
    simpa [Deferred.ofValue, invoke, Result.andThen] using hy
  rw [hrun]
  refine ⟨fun hd => absurd hd (by rw [Fz_depth]; simp), RoundIn.mono hround ?_⟩
  rintro e w' ⟨v, R', rfl, hR', hΦ⟩
  have := k v R' hΦ w' hR'
  cases d <;> simpa [Act.put] using this

/-- What follows the statement: on behind it, or the jump that a round left. -/
def RangeEnd (P : Program) (w0 : World) (K : Post) (l db : Nat) (T : List Value) (ds : List Deferred) (R' : List Asn) : Prop :=
  ∃ (r : Loop) (R1 : List Asn), Le w0 R' (lrec l r :: R1) ∧ r.state ≠ .busy ∧
    (match r.pending with | none => K .normal ⟨T.toArray, { target := .collected db, args := #[] } :: ds⟩ R1 | some c => HC P w0 none c K ⟨T.toArray, { target := .collected db, args := #[] } :: ds⟩ R1)

theorem HC_range {g : Operand} {ps : Array Tmp} {assign body : Code} {f : FuncId} {cap : List Value} {Φ : Nat → Nat → Value → List Asn → Prop}
    (hg : Ev L g (.func (.func f) #[] cap.toArray)) (en : ∀ args w, (callFunc f args).run P w = .ok (.enter f args) w)
    (h : ∀ l db r, LoopIs r L ps assign body → CH P w0 f ((.func (.yield l) #[] #[] :: cap).toArray) (lrec l r :: pt db (.deferred (some [])) :: R) (Φ l db))
    (k : ∀ l db v R', Φ l db v R' → RangeEnd P w0 K l db L ds R') :
    HC P w0 none (.rangeFunc g ps assign body) K ⟨L.toArray, ds⟩ R := by
  intro w hw
  refine wpIn_rangeFunc fun fn _ => ?_
  have h1 := (hw.alloc (.deferred (some []))).alloc (.loop { state := .ready, pending := none, fn, tmps := L.toArray, params := ps, assign, body, defers := w.heap.size })
  rw [World.size_alloc] at h1
  have hg' := hg ds
  have hc := h (w.heap.size + 1) w.heap.size _ ⟨rfl, rfl, rfl, rfl, rfl, rfl⟩ _ h1
  have hc1 : (⟨L.toArray, ds⟩ : Act).eval (.const (.func (.yield (w.heap.size + 1)) #[] #[])) = .func (.yield (w.heap.size + 1)) #[] #[] := rfl
  have hres' : ∀ W, (resolve (⟨L.toArray, ds⟩ : Act).eval (rangeCall g (w.heap.size + 1)) 0).run P W = .ok { target := .fn (.func f) cap.toArray, args := #[.func (.yield (w.heap.size + 1)) #[] #[]] } W := by
    intro W
    simp [resolve, rangeCall, hg', hc1, Deferred.ofValue, Result.andThen]
  have hinv : ∀ W, (invoke (.fn (.func f) cap.toArray) #[.func (.yield (w.heap.size + 1)) #[] #[]]).run P W = .ok (.enter f (.func (.yield (w.heap.size + 1)) #[] #[] :: cap).toArray) W := by
    intro W
    have := en (.func (.yield (w.heap.size + 1)) #[] #[] :: cap).toArray W
    simp only [invoke]
    simpa using this
  refine ⟨_, _, _, _, _, f, _, _, run_enterLoop_outer fn L.toArray ps assign body, hres' _, fun f' _ => Fz_fn none f', hinv _, fun hd => absurd hd (by rw [Fz_depth]; simp), Fz_calls (hc.mono ?_)⟩
  · rintro e w3 ⟨v, R', rfl, hR', hΦ⟩
    obtain ⟨r, R1, hle, hb, hk⟩ := k _ _ v R' hΦ
    have hw3 := hle w3 hR'
    have hl3 := hw3.get (List.mem_cons_self ..)
    refine ⟨_, _, run_endLoop hl3 hb, ?_⟩
    have hw4 : Holds w0 R1 (w3.putObj (w.heap.size + 1) (.loop { r with state := .exhausted })) := (hw3.setHead).sub (List.sublist_cons_self _ _)
    generalize (w3.putObj (w.heap.size + 1) (.loop { r with state := .exhausted })) = w4 at hw4 ⊢
    cases hp : r.pending with
    | none => rw [hp] at hk; exact ⟨R1, hw4, hk⟩
    | some c => rw [hp] at hk; exact hk _ hw4

/-- A function's results behind a range over a function. -/
theorem Lv_mark {fn : Func} {T : Array Value} {Φ : Value → List Asn → Prop} {db : Nat} {R1 : List Asn} (hle : Le w0 R (pt db (.deferred (some [])) :: R1)) (h : Lv P w0 fn T Φ [] R1) :
    Lv P w0 fn T Φ [{ target := .collected db, args := #[] }] R := ⟨db, R1, rfl, hle, h⟩
end Go.Hw
