/- The hidden world: one rule for each kind of operation. Own work; program-independent. -/
import Derived.Test.YtcilfoicoambhaaFw
import Derived.Laws.Rows
import Derived.Deep.MidRow
import Derived.Laws.CopyRow
import Derived.Laws.Tables
import Derived.Shelf.Abstract
set_option linter.unusedVariables false
set_option linter.unusedSimpArgs false
namespace Go.Hw
open Go Go.RowKit

variable {P : Program} {w0 : World} {ro : Option Nat} {K : Post} {R : List Asn} {L : List Value} {ds : List Deferred} {ops : Array Oper}

/-- An operand's value. -/
def Ev (L : List Value) (x : Operand) (v : Value) : Prop := ∀ ds, (⟨L.toArray, ds⟩ : Act).eval x = v
theorem Ev.tmp {i : Nat} {v : Value} (h : L[i]? = some v) : Ev L (.tmp i) v := by
  intro ds
  have := (List.getElem?_eq_some_iff.1 h)
  obtain ⟨hi, hv⟩ := this
  simp [Act.eval, Array.getD, hi, hv]
theorem Ev.const {v : Value} : Ev L (.const v) v := fun _ => rfl
theorem Ev.func {f : FuncId} : Ev L (.func f) (.func (.func f) #[] #[]) := fun _ => rfl

theorem cells_agg {a : Array Value} : (Value.agg a).cells = a := rfl
theorem cells_int {k : IntKind} {a : Int} : (Value.int k a).cells = #[.int k a] := rfl
theorem cells_bool {a : Bool} : (Value.bool a).cells = #[.bool a] := rfl
theorem cells_slice {a : Option Addr} {n c : Nat} : (Value.slice a n c).cells = #[.slice a n c] := rfl
theorem cells_ptr {a : Option Addr} : (Value.pointer a).cells = #[.pointer a] := rfl
theorem cells_func {f : Fn} {a b : Array Value} : (Value.func f a b).cells = #[.func f a b] := rfl
theorem cells_nilFunc : Value.nilFunc.cells = #[.nilFunc] := rfl
theorem cells_str {a : ByteArray} : (Value.string a).cells = #[.string a] := rfl
theorem cells_map {a : Option Nat} : (Value.map a).cells = #[.map a] := rfl

/-! Short names for the rules that every step uses. -/
theorem zS0 {a b : Value} {l : List Value} : (a :: l).set 0 b = b :: l := rfl
theorem zS1 {a b : Value} {l : List Value} {n : Nat} : (a :: l).set (n + 1) b = a :: l.set n b := rfl
theorem zTn (n : Nat) : ((n : Nat) : Int).toNat = n := rfl
theorem zG0 {l : List Value} {i : Nat} (h : i < l.toArray.size) : l.toArray[i] = l[i]'(by simpa using h) := rfl
theorem zG1 {a : Value} {l : List Value} (h : 0 < (a :: l).length) : (a :: l)[0] = a := rfl
theorem zG2 {a : Value} {l : List Value} {i : Nat} (h : i + 1 < (a :: l).length) : (a :: l)[i + 1] = l[i]'(by simpa using h) := rfl
theorem zCa {a : Array Value} : (Value.agg a).cells = a := rfl
theorem zCi {k : IntKind} {a : Int} : (Value.int k a).cells = #[.int k a] := rfl
theorem zCb {a : Bool} : (Value.bool a).cells = #[.bool a] := rfl
theorem zCs {a : Option Addr} {n c : Nat} : (Value.slice a n c).cells = #[.slice a n c] := rfl
theorem zCf {f : Fn} {a b : Array Value} : (Value.func f a b).cells = #[.func f a b] := rfl
theorem zCn : Value.nilFunc.cells = #[.nilFunc] := rfl
theorem zCt {a : ByteArray} : (Value.string a).cells = #[.string a] := rfl
theorem zCm {a : Option Nat} : (Value.map a).cells = #[.map a] := rfl
theorem zCp {a : Option Addr} : (Value.pointer a).cells = #[.pointer a] := rfl
theorem zLa {l : List Value} : l.toArray.toList = l := rfl
theorem zTa {a : Value} {l : List Value} {n : Nat} : (a :: l).take (n + 1) = a :: l.take n := rfl
theorem zTz {l : List Value} : l.take 0 = [] := rfl
theorem zDa {a : Value} {l : List Value} {n : Nat} : (a :: l).drop (n + 1) = l.drop n := rfl
theorem zDz {l : List Value} : l.drop 0 = l := rfl
theorem zAn {l : List Value} : [] ++ l = l := rfl
theorem zAc {a : Value} {l m : List Value} : (a :: l) ++ m = a :: (l ++ m) := rfl

/-- Where a resource is turned. -/
inductive Upd : List Asn → Nat → Obj → Obj → List Asn → Prop
  | head {g : Nat} {o o' : Obj} {R : List Asn} : Upd (pt g o :: R) g o o' (pt g o' :: R)
  | tail {g : Nat} {o o' : Obj} {A : Asn} {R R' : List Asn} (h : Upd R g o o' R') : Upd (A :: R) g o o' (A :: R')
  | at_ {g i : Nat} {o o' : Obj} {R : List Asn} (h : R[i]? = some (pt g o)) : Upd R g o o' (R.set i (pt g o'))
theorem Upd.idx {R R' : List Asn} {g : Nat} {o o' : Obj} (h : Upd R g o o' R') : ∃ i, R[i]? = some (pt g o) ∧ R' = R.set i (pt g o') := by
  induction h with
  | head => exact ⟨0, rfl, rfl⟩
  | tail _ ih => obtain ⟨i, h1, rfl⟩ := ih; exact ⟨i + 1, h1, rfl⟩
  | at_ h => exact ⟨_, h, rfl⟩
theorem Upd.set {R : List Asn} {i g : Nat} {o o1 o2 : Obj} (h : R[i]? = some (pt g o)) : Upd (R.set i (pt g o1)) g o1 o2 (R.set i (pt g o2)) := by
  have hi : i < R.length := (List.getElem?_eq_some_iff.1 h).1
  have := Upd.at_ (R := R.set i (pt g o1)) (i := i) (g := g) (o := o1) (o' := o2) (by simp [hi])
  simpa using this
theorem mem_set_self {R : List Asn} {i g : Nat} {o o1 : Obj} (h : R[i]? = some (pt g o)) : pt g o1 ∈ R.set i (pt g o1) := by
  have hi : i < R.length := (List.getElem?_eq_some_iff.1 h).1
  exact List.mem_of_getElem? (i := i) (by simp [hi])

/-! ### steps -/
/-- A quiet operation: it hands back v in every world that R holds of, and turns nothing. -/
def QV (P : Program) (w0 : World) (s : Sem Next) (R : List Asn) (v : Value) : Prop := ∀ w, Holds w0 R w → s.run P w = .ok (.value v) w
/-- An operation that hands back a value. -/
def SO (P : Program) (w0 : World) (s : Sem Next) (R : List Asn) (N : Value → List Asn → Prop) : Prop :=
  ∀ w, Holds w0 R w → ∃ v w' R', ((∃ n, n = Next.value v ∧ s.run P w = .ok n w') ∨ (v = undef ∧ s.run P w = .ok .skip w')) ∧ Holds w0 R' w' ∧ N v R'

theorem QV.sub {s : Sem Next} {R' : List Asn} {v : Value} (h : QV P w0 s R' v) (hs : R'.Sublist R) : QV P w0 s R v := fun w hw => h w (hw.sub hs)

theorem about_fz {o : Oper} {w : World} {ρ : Operand → Value} : ∀ f, o.about P w ρ = some f → (Fz ro).fn f := fun f _ => Fz_fn ro f

def notDefer : Op → Bool
  | .defer _ => false
  | _ => true
theorem notDefer_ne {o : Oper} (h : notDefer o.op = true) : ∀ c, o.op ≠ .defer c := by
  intro c e
  rw [e] at h
  cases h

theorem HL_nil {a : Act} (h : K .normal a R) : HL P w0 ro ops K [] a R := fun w hw => ⟨R, hw, h⟩

theorem HL_q {d : Nat} {op : Op} {ty : TypeId} {pos : String} {af : Array Edge} {g : Option (Nat × Bool)} {rest : List Oper} {v : Value}
    (hw : Region.wanted ⟨some d, op, ty, pos, af, g⟩ (yielded ops L.toArray) = true) (hnd : notDefer op = true)
    (hq : ∀ ρ, (∀ x u, Ev L x u → ρ x = u) → QV P w0 (execOp ρ ⟨some d, op, ty, pos, af, g⟩) R v)
    (k : HL P w0 ro ops K rest ⟨(L.set d v).toArray, ds⟩ R) : HL P w0 ro ops K (⟨some d, op, ty, pos, af, g⟩ :: rest) ⟨L.toArray, ds⟩ R := by
  intro w hR
  unfold wpListIn
  rw [if_pos hw]
  refine ⟨about_fz, ?_⟩
  rw [Oper.semAt_eq _ _ _ (notDefer_ne hnd), hq _ (fun x u h => h ds) w hR]
  have := k w hR
  simpa [Oper.uponIn, Act.put] using this

theorem HL_s {d : Option Nat} {op : Op} {ty : TypeId} {pos : String} {af : Array Edge} {g : Option (Nat × Bool)} {rest : List Oper} {N : Value → List Asn → Prop}
    (hw : Region.wanted ⟨d, op, ty, pos, af, g⟩ (yielded ops L.toArray) = true) (hnd : notDefer op = true)
    (hs : ∀ ρ, (∀ x u, Ev L x u → ρ x = u) → SO P w0 (execOp ρ ⟨d, op, ty, pos, af, g⟩) R N)
    (k : ∀ v R', N v R' → HL P w0 ro ops K rest ⟨(match d with | some d => L.set d v | none => L).toArray, ds⟩ R') : HL P w0 ro ops K (⟨d, op, ty, pos, af, g⟩ :: rest) ⟨L.toArray, ds⟩ R := by
  intro w hR
  unfold wpListIn
  rw [if_pos hw]
  refine ⟨about_fz, ?_⟩
  rw [Oper.semAt_eq _ _ _ (notDefer_ne hnd)]
  obtain ⟨v, w', R', hr, hR', hN⟩ := hs _ (fun x u h => h ds) w hR
  have := k v R' hN w' hR'
  rcases hr with ⟨_, rfl, hr⟩ | ⟨rfl, hr⟩
  · rw [hr]
    cases d <;> simpa [Oper.uponIn, Act.put] using this
  · rw [hr]
    cases d <;> simpa [Oper.uponIn, Act.put] using this

/-- An operation that its guard leaves out. -/
theorem HL_skip {d : Nat} {op : Op} {ty : TypeId} {pos : String} {af : Array Edge} {g : Option (Nat × Bool)} {rest : List Oper}
    (hw : Region.wanted ⟨some d, op, ty, pos, af, g⟩ (yielded ops L.toArray) = false)
    (k : HL P w0 ro ops K rest ⟨(L.set d undef).toArray, ds⟩ R) : HL P w0 ro ops K (⟨some d, op, ty, pos, af, g⟩ :: rest) ⟨L.toArray, ds⟩ R := by
  intro w hR
  unfold wpListIn
  rw [if_neg (by rw [hw]; simp)]
  refine ⟨about_fz, ?_⟩
  have := k w hR
  simpa [Act.put] using this
theorem HL_skip0 {op : Op} {ty : TypeId} {pos : String} {af : Array Edge} {g : Option (Nat × Bool)} {rest : List Oper}
    (hw : Region.wanted ⟨none, op, ty, pos, af, g⟩ (yielded ops L.toArray) = false)
    (k : HL P w0 ro ops K rest ⟨L.toArray, ds⟩ R) : HL P w0 ro ops K (⟨none, op, ty, pos, af, g⟩ :: rest) ⟨L.toArray, ds⟩ R := by
  intro w hR
  unfold wpListIn
  rw [if_neg (by rw [hw]; simp)]
  refine ⟨about_fz, ?_⟩
  have := k w hR
  simpa [Act.put] using this

/-- A call of a Go function that its contract meets. -/
theorem HL_call {d : Option Nat} {c : Call} {ty : TypeId} {pos : String} {af : Array Edge} {g : Option (Nat × Bool)} {rest : List Oper} {f : FuncId} {args : Array Value} {Φ : Value → List Asn → Prop}
    (hw : Region.wanted ⟨d, .call c, ty, pos, af, g⟩ (yielded ops L.toArray) = true)
    (en : ∀ args w, (callFunc f args).run P w = .ok (.enter f args) w)
    (hc : ∀ ρ, (∀ x u, Ev L x u → ρ x = u) → ∀ w, (do let dd ← resolve ρ c ty; invoke dd.target dd.args).run P w = (callFunc f args).run P w)
    (h : CH P w0 f args R Φ)
    (k : ∀ v R', Φ v R' → HL P w0 ro ops K rest ⟨(match d with | some d => L.set d v | none => L).toArray, ds⟩ R') : HL P w0 ro ops K (⟨d, .call c, ty, pos, af, g⟩ :: rest) ⟨L.toArray, ds⟩ R := by
  intro w hR
  unfold wpListIn
  rw [if_pos hw]
  refine ⟨about_fz, ?_⟩
  rw [Oper.semAt_eq _ _ _ (notDefer_ne rfl)]
  have hrun : (execOp (⟨L.toArray, ds⟩ : Act).eval ⟨d, .call c, ty, pos, af, g⟩).run P w = .ok (.enter f args) w := by
    have := hc _ (fun x u h => h ds) w
    rw [en] at this
    exact this
  rw [hrun]
  refine ⟨fun hd => absurd hd (by rw [Fz_depth]; simp), Fz_calls ((h w hR).mono ?_)⟩
  rintro e w' ⟨v, R', rfl, hR', hΦ⟩
  have := k v R' hΦ w' hR'
  cases d <;> simpa [Act.put] using this

/-! ### quiet operations -/
section
variable {d : Option Nat} {ty : TypeId} {pos : String} {af : Array Edge} {gd : Option (Nat × Bool)} {ρ : Operand → Value}

abbrev Rho (L : List Value) (ρ : Operand → Value) : Prop := ∀ x u, Ev L x u → ρ x = u

theorem QV_move {x : Operand} {v : Value} (hx : Ev L x v) : ∀ ρ, Rho L ρ → QV P w0 (execOp ρ ⟨d, .move x, ty, pos, af, gd⟩) R v := by
  intro ρ hρ w _
  simp [execOp, hρ x v hx]
theorem QV_assign {x : Operand} {v : Value} (hx : Ev L x v) : ∀ ρ, Rho L ρ → QV P w0 (execOp ρ ⟨d, .assign x, ty, pos, af, gd⟩) R v := by
  intro ρ hρ w _
  simp [execOp, hρ x v hx]
theorem QV_pick {c x y : Operand} {t : Bool} {u v : Value} (hc : Ev L c (.bool t)) (hx : Ev L x u) (hy : Ev L y v) : ∀ ρ, Rho L ρ → QV P w0 (execOp ρ ⟨d, .pick c x y, ty, pos, af, gd⟩) R (if t then u else v) := by
  intro ρ hρ w _
  cases t <;> simp [execOp, hρ _ _ hc, hρ _ _ hx, hρ _ _ hy, asBool]
theorem QV_nil {x : Operand} {a : Addr} (hx : Ev L x (.pointer (some a))) : ∀ ρ, Rho L ρ → QV P w0 (execOp ρ ⟨d, .nilCheck x, ty, pos, af, gd⟩) R (.pointer (some a)) := by
  intro ρ hρ w _
  simp [execOp, hρ _ _ hx]
theorem QV_extract {x : Operand} {vs : Array Value} {i : Nat} {v : Value} (hx : Ev L x (.tuple vs)) (hv : vs[i]? = some v) : ∀ ρ, Rho L ρ → QV P w0 (execOp ρ ⟨d, .extract x i, ty, pos, af, gd⟩) R v := by
  intro ρ hρ w _
  simp [execOp, hρ _ _ hx, Instr.extract, hv]
theorem QV_bin {b : BinOp} {t t' : TypeId} {x y : Operand} {u v r : Value} (hx : Ev L x u) (hy : Ev L y v) (hr : ∀ w, (do eqGuard b t x y u v; binOp b t u v).run P w = .ok r w) :
    ∀ ρ, Rho L ρ → QV P w0 (execOp ρ ⟨d, .binOp b t x y t', ty, pos, af, gd⟩) R r := by
  intro ρ hρ w _
  have := hr w
  simp only [execOp, hρ _ _ hx, hρ _ _ hy]
  rw [Sem.run_bind, this]
  rfl
theorem QV_un {b : UnOp} {t : TypeId} {x : Operand} {u r : Value} (hx : Ev L x u) (hr : ∀ w, (Op.unary b u).run P w = .ok r w) :
    ∀ ρ, Rho L ρ → QV P w0 (execOp ρ ⟨d, .unOp b t x, ty, pos, af, gd⟩) R r := by
  intro ρ hρ w _
  simp only [execOp, hρ _ _ hx]
  rw [Sem.run_bind, hr w]
  rfl
theorem QV_conv {s t : TypeId} {x : Operand} {u r : Value} (hx : Ev L x u) (hr : ∀ w, Holds w0 R w → (convert s t u).run P w = .ok r w) :
    ∀ ρ, Rho L ρ → QV P w0 (execOp ρ ⟨d, .convert s t x, ty, pos, af, gd⟩) R r := by
  intro ρ hρ w hw
  simp only [execOp, hρ _ _ hx]
  rw [Sem.run_bind, hr w hw]
  rfl
theorem QV_field {s : TypeId} {f : Nat} {x : Operand} {u r : Value} (hx : Ev L x u) (hr : ∀ w, (Instr.fieldAt s u f).run P w = .ok r w) :
    ∀ ρ, Rho L ρ → QV P w0 (execOp ρ ⟨d, .fieldAddr s x f, ty, pos, af, gd⟩) R r := by
  intro ρ hρ w hw
  simp only [execOp, hρ _ _ hx]
  rw [Sem.run_bind, hr w]
  rfl
theorem fieldAt_at {s : TypeId} {fields : Array Field} {f k : Nat} {fd : Field} (hu : P.underlying s = some (.struct fields)) (hf : fields[f]? = some fd) (hs : ∀ w, (sizeOf fd.type).run P w = .ok (k + 1) w) (g off : Nat) (w : World) :
    (Instr.fieldAt s (.pointer (some ⟨g, off, none⟩)) f).run P w = .ok (.pointer (some ⟨g, off + fd.offset, none⟩)) w := by
  have hadd : (⟨g, off, none⟩ : Addr).add fd.offset = ⟨g, off + fd.offset, none⟩ := by unfold Addr.add; split <;> simp_all
  simp [Instr.fieldAt, run_underlying hu, hf, Instr.sureAddr, fieldPlace, hs, hadd, Result.andThen]
theorem indexAt_slice {t e : TypeId} {k : IntKind} {g off n c sz : Nat} {i : Int} (hu : P.underlying t = some (.slice e)) (hs : ∀ w, (sizeOf e).run P w = .ok sz w) (h0 : 0 ≤ i) (h1 : i < n) (w : World) :
    (Instr.indexAt t (.slice (some ⟨g, off, none⟩) n c) (.int k i)).run P w = .ok (.pointer (some ⟨g, off + i.toNat * sz, none⟩)) w := by
  have hadd : ∀ m : Nat, (⟨g, off, none⟩ : Addr).add m = ⟨g, off + m, none⟩ := by intro m; unfold Addr.add; split <;> simp_all
  simp [Instr.indexAt, asIntOf, run_underlying hu, hs, h0, h1, hadd, Result.andThen]
theorem indexAt_array {t e : TypeId} {k : IntKind} {g off n sz : Nat} {i : Int} (hu : P.underlying t = some (.array n e)) (hs : ∀ w, (sizeOf e).run P w = .ok sz w) (h0 : 0 ≤ i) (h1 : i < n) (w : World) :
    (Instr.indexAt t (.pointer (some ⟨g, off, none⟩)) (.int k i)).run P w = .ok (.pointer (some ⟨g, off + i.toNat * sz, none⟩)) w := by
  have hadd : ∀ m : Nat, (⟨g, off, none⟩ : Addr).add m = ⟨g, off + m, none⟩ := by intro m; unfold Addr.add; split <;> simp_all
  simp [Instr.indexAt, asIntOf, run_underlying hu, hs, h0, h1, hadd, Instr.sureAddr, Result.andThen]
theorem QV_index {t : TypeId} {x y : Operand} {u v r : Value} (hx : Ev L x u) (hy : Ev L y v) (hr : ∀ w, (Instr.indexAt t u v).run P w = .ok r w) :
    ∀ ρ, Rho L ρ → QV P w0 (execOp ρ ⟨d, .indexAddr t x y, ty, pos, af, gd⟩) R r := by
  intro ρ hρ w hw
  simp only [execOp, hρ _ _ hx, hρ _ _ hy]
  rw [Sem.run_bind, hr w]
  rfl
theorem QV_func {fn : Fn} {first cap : Array Operand} {u v : Array Value} (hx : ∀ ρ, Rho L ρ → first.map ρ = u) (hy : ∀ ρ, Rho L ρ → cap.map ρ = v) :
    ∀ ρ, Rho L ρ → QV P w0 (execOp ρ ⟨d, .makeFunc fn first cap, ty, pos, af, gd⟩) R (.func fn u v) := by
  intro ρ hρ w hw
  simp [execOp, hx ρ hρ, hy ρ hρ, Instr.makeFunc]
/-- Any operation, its run given. -/
theorem QV_any {op : Op} {r : Value} (hr : ∀ ρ, Rho L ρ → ∀ w, Holds w0 R w → (execOp ρ ⟨d, op, ty, pos, af, gd⟩).run P w = .ok (.value r) w) :
    ∀ ρ, Rho L ρ → QV P w0 (execOp ρ ⟨d, op, ty, pos, af, gd⟩) R r := hr

theorem QV_load1 {t : TypeId} {x : Operand} {g off : Nat} {cs : Array Value} {e : TypeId} {fr : Nat × Nat} {v : Value} (hx : Ev L x (.pointer (some ⟨g, off, none⟩)))
    (ha : ∀ w, (isAgg t).run P w = .ok false w) (hm : pt g (.cells cs e fr) ∈ R) (hv : cs[off]? = some v) :
    ∀ ρ, Rho L ρ → QV P w0 (execOp ρ ⟨d, .load t x, ty, pos, af, gd⟩) R v := by
  intro ρ hρ w hw
  have hg := hw.get hm
  have hc : w.cell? ⟨g, off, none⟩ = some v := (cell_of_row w g off cs e fr hg).trans hv
  simp [execOp, hρ _ _ hx, Instr.loadAt, Instr.sureAddr, loadVar, ha, hc, Result.andThen]
theorem QV_loadA {t : TypeId} {x : Operand} {g off n : Nat} {cs : Array Value} {e : TypeId} {fr : Nat × Nat} {vs : List Value} (hx : Ev L x (.pointer (some ⟨g, off, none⟩)))
    (ha : ∀ w, (isAgg t).run P w = .ok true w) (hs : ∀ w, (sizeOf t).run P w = .ok n w) (hm : pt g (.cells cs e fr) ∈ R) (hv : (cs.toList.drop off).take n = vs) (hn : vs.length = n) :
    ∀ ρ, Rho L ρ → QV P w0 (execOp ρ ⟨d, .load t x, ty, pos, af, gd⟩) R (.agg vs.toArray) := by
  intro ρ hρ w hw
  have hg := hw.get hm
  have hl := run_loadCells_list (P := P) w ⟨g, off, none⟩ vs (fun j u hu => by
    have hadd : (⟨g, off, none⟩ : Addr).add j = ⟨g, off + j, none⟩ := by unfold Addr.add; split <;> simp_all
    rw [hadd, cell_of_row w g (off + j) cs e fr hg]
    rw [← hv, List.getElem?_take] at hu
    split at hu
    · rw [List.getElem?_drop] at hu
      simpa using hu
    · cases hu)
  rw [hn] at hl
  simp [execOp, hρ _ _ hx, Instr.loadAt, Instr.sureAddr, loadVar, ha, hs, hl, Result.andThen]
end

/-! ### operations that turn memory -/
section
variable {d : Option Nat} {ty : TypeId} {pos : String} {af : Array Edge} {gd : Option (Nat × Bool)} {ρ : Operand → Value}

theorem SO_alloc {t : TypeId} {z : Value} {cs : Array Value} (hz : ∀ w, (zeroValue t).run P w = .ok z w) (hcs : z.cells = cs) :
    ∀ ρ, Rho L ρ → SO P w0 (execOp ρ ⟨d, .alloc t, ty, pos, af, gd⟩) R (fun v R' => ∃ g, v = .pointer (some ⟨g, 0, none⟩) ∧ R' = pt g (.cells cs t (0, 0)) :: R) := by
  intro ρ hρ w hw
  refine ⟨.pointer (some ⟨w.heap.size, 0, none⟩), w.alloc (.cells cs t), _, .inl ⟨_, rfl, ?_⟩, hw.alloc _, w.heap.size, rfl, rfl⟩
  simp [execOp, Instr.alloc, hz, newVar, newRow, hcs, Result.andThen]
theorem SO_box {t : TypeId} {x : Operand} {v : Value} {cs : Array Value} (hx : Ev L x v) (hcs : v.cells = cs) :
    ∀ ρ, Rho L ρ → SO P w0 (execOp ρ ⟨d, .box t x, ty, pos, af, gd⟩) R (fun v R' => ∃ g, v = .pointer (some ⟨g, 0, none⟩) ∧ R' = pt g (.cells cs t (0, 0)) :: R) := by
  intro ρ hρ w hw
  refine ⟨.pointer (some ⟨w.heap.size, 0, none⟩), w.alloc (.cells cs t), _, .inl ⟨_, rfl, ?_⟩, hw.alloc _, w.heap.size, rfl, rfl⟩
  simp [execOp, Instr.box, hρ _ _ hx, newVar, newRow, hcs, Result.andThen]

/-- The cells of a row, some of them laid anew. -/
def spl (cs : Array Value) (off : Nat) (vs : List Value) : Array Value := (cs.toList.take off ++ vs ++ cs.toList.drop (off + vs.length)).toArray

theorem SO_store {t : TypeId} {x y : Operand} {g off n : Nat} {v : Value} {vs : List Value} {cs : Array Value} {e : TypeId} {R' : List Asn} (hx : Ev L x (.pointer (some ⟨g, off, none⟩))) (hy : Ev L y v)
    (hs : ∀ w, (sizeOf t).run P w = .ok n w) (hvs : v.cells = vs.toArray) (hn : vs.length = n) (h1 : vs.all (·.oneCell') = true)
    (hm : Upd R g (.cells cs e (0, 0)) (.cells (spl cs off vs) e (0, 0)) R') (hfit : off + vs.length ≤ cs.size) :
    ∀ ρ, Rho L ρ → SO P w0 (execOp ρ ⟨d, .store t x y, ty, pos, af, gd⟩) R (fun u R'' => u = undef ∧ R'' = R') := by
  intro ρ hρ w hw
  obtain ⟨i, hi, rfl⟩ := hm.idx
  have hg := hw.get (List.mem_of_getElem? hi)
  have hst := run_storeCells_at P g off e vs 0 cs w hg (by simpa using hfit) (fun u hu => by simpa using (List.all_eq_true.1 h1) u hu)
  have hlt : g < w.heap.size := (Array.getElem?_eq_some_iff.1 hg).1
  refine ⟨undef, w.setRow g (spl cs off vs), _, .inr ⟨rfl, ?_⟩, hw.setAt hi rfl rfl rfl (by simp) (fun k hk => setRow_other w g k _ hk) (setRow_heap w g cs _ e _ hg), rfl, rfl⟩
  simp only [Nat.add_zero] at hst
  simp [execOp, hρ _ _ hx, hρ _ _ hy, Instr.storeAt, Instr.sureAddr, storeVar, hs, hvs, hn, Result.andThen]
  rw [hst]
  simp [spl, hn]
end

/-! ### operands, calls, builtins -/
def Evs (L : List Value) (xs : Array Operand) (vs : List Value) : Prop := ∀ ρ, Rho L ρ → xs.map ρ = vs.toArray
theorem Evs.of {xs : List Operand} {vs : List Value} (h : ∀ ρ, Rho L ρ → xs.map ρ = vs) : Evs L xs.toArray vs := fun ρ hρ => by simp [h ρ hρ]
inductive EvL (L : List Value) : List Operand → List Value → Prop
  | nil : EvL L [] []
  | cons {x : Operand} {v : Value} {xs : List Operand} {vs : List Value} (h : Ev L x v) (k : EvL L xs vs) : EvL L (x :: xs) (v :: vs)
theorem EvL.evs {xs : List Operand} {vs : List Value} (h : EvL L xs vs) : Evs L xs.toArray vs := by
  refine Evs.of fun ρ hρ => ?_
  induction h with
  | nil => rfl
  | cons h _ ih => simp [hρ _ _ h, ih]

theorem call_fn {f : FuncId} {args : Array Operand} {tys : Array TypeId} {ty : TypeId} {vs : List Value} (ha : Evs L args vs) :
    ∀ ρ, Rho L ρ → ∀ w, (do let dd ← resolve ρ ⟨.value (.func f), args, tys⟩ ty; invoke dd.target dd.args).run P w = (callFunc f vs.toArray).run P w := by
  intro ρ hρ w
  have h := hρ _ _ (Ev.func (f := f))
  simp [resolve, h, ha ρ hρ, Deferred.ofValue, invoke, Result.andThen]
theorem call_val {f : FuncId} {x : Operand} {cap : List Value} {args : Array Operand} {tys : Array TypeId} {ty : TypeId} {vs : List Value} (hx : Ev L x (.func (.func f) #[] cap.toArray)) (ha : Evs L args vs) :
    ∀ ρ, Rho L ρ → ∀ w, (do let dd ← resolve ρ ⟨.value x, args, tys⟩ ty; invoke dd.target dd.args).run P w = (callFunc f (vs ++ cap).toArray).run P w := by
  intro ρ hρ w
  simp [resolve, hρ _ _ hx, ha ρ hρ, Deferred.ofValue, invoke, Result.andThen]

section
variable {d : Option Nat} {ty : TypeId} {pos : String} {af : Array Edge} {gd : Option (Nat × Bool)} {ρ : Operand → Value}
theorem QV_len {t e : TypeId} {x : Operand} {a : Option Addr} {n c : Nat} (hx : Ev L x (.slice a n c)) (hu : P.underlying t = some (.slice e)) :
    ∀ ρ, Rho L ρ → QV P w0 (execOp ρ ⟨d, .call ⟨.builtin .len, #[x], #[t]⟩, ty, pos, af, gd⟩) R (.int .i64 (n : Int)) := by
  intro ρ hρ w hw
  have h := hρ _ _ hx
  simp [execOp, resolve, h, invoke, builtin, Builtin.len_, Builtin.lenOf, goInt, Result.andThen, run_underlying hu]
theorem QV_builtin {b : Builtin} {args : Array Operand} {tys : Array TypeId} {vs : List Value} {r : Value} (ha : Evs L args vs)
    (hr : ∀ ρ : Operand → Value, args.map ρ = vs.toArray → ∀ w, Holds w0 R w → (do let dd ← resolve ρ ⟨.builtin b, args, tys⟩ ty; invoke dd.target dd.args).run P w = .ok (.value r) w) :
    ∀ ρ, Rho L ρ → QV P w0 (execOp ρ ⟨d, .call ⟨.builtin b, args, tys⟩, ty, pos, af, gd⟩) R r := by
  intro ρ hρ w hw
  exact hr ρ (ha ρ hρ) w hw
theorem QV_build {t : TypeId} {parts : List (Nat × Operand)} {vs : List Value} {r : Value} (hv : EvL L (parts.map (·.2)) vs)
    (hr : ∀ w, (Instr.build t (((parts.map (·.1)).zip vs).toArray)).run P w = .ok r w) :
    ∀ ρ, Rho L ρ → QV P w0 (execOp ρ ⟨d, .build t parts.toArray, ty, pos, af, gd⟩) R r := by
  intro ρ hρ w hw
  have he : ∀ (ps : List (Nat × Operand)) (us : List Value), EvL L (ps.map (·.2)) us → ps.map (fun p => (p.1, ρ p.2)) = (ps.map (·.1)).zip us := by
    intro ps
    induction ps with
    | nil => intro us _; rfl
    | cons p ps ih =>
      intro us hu
      cases hu with
      | cons h k => simp [hρ _ _ h, ih _ k]
  have h1 : parts.toArray.map (fun (x : Nat × Operand) => match x with | (i, x) => (i, ρ x)) = ((parts.map (·.1)).zip vs).toArray := by
    rw [List.map_toArray, ← he parts vs hv]
  simp only [execOp, h1]
  rw [Sem.run_bind, hr w]
  rfl
end

def placesOf (fields : Array Field) : Sem (Array (Nat × Nat)) := fields.mapM fun f => do pure (f.offset, ← sizeOf f.type)
theorem build_struct {t : TypeId} {fields : Array Field} {z : Value} {places : Array (Nat × Nat)} {parts : Array (Nat × Value)} {cells : Array Value} (hz : ∀ w, (zeroValue t).run P w = .ok z w) (hu : P.underlying t = some (.struct fields))
    (hp : ∀ w, (placesOf fields).run P w = .ok places w) (hf : Instr.fill (places[·]?) z.cells parts.toList = some cells) (w : World) : (Instr.build t parts).run P w = .ok (.agg cells) w := by
  have hp' : ∀ w, Sem.run P (fields.mapM fun f => do pure (f.offset, ← sizeOf f.type)) w = .ok places w := hp
  simp only [Instr.build, Sem.run_bind, hz, run_underlying hu, Result.andThen]
  rw [hp' w]
  simp [hf, Result.andThen]
theorem one_cells {v : Value} (h : v.oneCell' = true) : v.cells = #[v] := by
  cases v <;> first | rfl | simp [Value.oneCell'] at h
def offOf (pl : List (Nat × Nat)) (i : Nat) : Nat := match pl[i]? with
  | some p => p.1
  | none => 0
/-- The parts laid over the cells z, each of one cell. -/
def putAll (pl : List (Nat × Nat)) : List Value → List (Nat × Value) → List Value
  | z, [] => z
  | z, (i, v) :: r => putAll pl (z.set (offOf pl i) v) r
def chkAll (pl : List (Nat × Nat)) (n : Nat) : List (Nat × Value) → Bool
  | [] => true
  | (i, v) :: r => (match pl[i]? with
    | some (o, 1) => decide (o < n)
    | _ => false) && v.oneCell' && chkAll pl n r
theorem fill_putAll (pl : List (Nat × Nat)) : ∀ (ps : List (Nat × Value)) (z : List Value), chkAll pl z.length ps = true → Instr.fill (pl.toArray[·]?) z.toArray ps = some (putAll pl z ps).toArray
  | [], z, _ => rfl
  | (i, v) :: r, z, h => by
    simp only [chkAll, Bool.and_eq_true] at h
    obtain ⟨⟨h1, h2⟩, h3⟩ := h
    have hv := one_cells h2
    split at h1
    · rename_i o ho
      have ho' : o < z.length := of_decide_eq_true h1
      have e : pl.toArray[i]? = some (o, 1) := by simpa using ho
      have eo : offOf pl i = o := by simp [offOf, ho]
      simp only [Instr.fill, e]
      rw [hv, if_neg (by simp; omega), putAll, eo]
      have e2 : (Array.foldl (fun cs (x : Value × Nat) => cs.setIfInBounds (o + x.2) x.1) z.toArray (#[v] : Array Value).zipIdx) = (z.set o v).toArray := by simp
      rw [← fill_putAll pl r (z.set o v) (by simpa using h3), ← e2]
    · cases h1
theorem QV_buildS {d : Option Nat} {ty : TypeId} {pos : String} {af : Array Edge} {gd : Option (Nat × Bool)} {t : TypeId} {fields : Array Field} {z : List Value} {pl : List (Nat × Nat)} {parts : List (Nat × Operand)} {vs : List Value} (hv : EvL L (parts.map (·.2)) vs)
    (hz : ∀ w, (zeroValue t).run P w = .ok (.agg z.toArray) w) (hu : P.underlying t = some (.struct fields)) (hp : ∀ w, (placesOf fields).run P w = .ok pl.toArray w) (hc : chkAll pl z.length ((parts.map (·.1)).zip vs) = true) :
    ∀ ρ, Rho L ρ → QV P w0 (execOp ρ ⟨d, .build t parts.toArray, ty, pos, af, gd⟩) R (.agg (putAll pl z ((parts.map (·.1)).zip vs)).toArray) :=
  QV_build hv (build_struct hz hu hp (fill_putAll pl _ z hc))
theorem build_array {t e n sz : Nat} {z : Value} {parts : Array (Nat × Value)} {cells : Array Value} (hz : ∀ w, (zeroValue t).run P w = .ok z w) (hu : P.underlying t = some (.array n e))
    (hs : ∀ w, (sizeOf e).run P w = .ok sz w) (hf : Instr.fill (fun i => some (i * sz, sz)) z.cells parts.toList = some cells) (w : World) : (Instr.build t parts).run P w = .ok (.agg cells) w := by
  simp [Instr.build, hz, run_underlying hu, hs, hf, Result.andThen]

/-! ### whole numbers -/
section
variable {d : Option Nat} {ty : TypeId} {pos : String} {af : Array Edge} {gd : Option (Nat × Bool)} {ρ : Operand → Value} {t t' : TypeId} {x y : Operand} {k : IntKind} {a b r : Int}
theorem QV_add (hx : Ev L x (.int k a)) (hy : Ev L y (.int k b)) (hr : k.wrap (a + b) = r) : ∀ ρ, Rho L ρ → QV P w0 (execOp ρ ⟨d, .binOp .add t x y t', ty, pos, af, gd⟩) R (.int k r) :=
  QV_bin hx hy fun w => by simp [eqGuard, binOp, Op.intArith, hr]
theorem QV_sub (hx : Ev L x (.int k a)) (hy : Ev L y (.int k b)) (hr : k.wrap (a - b) = r) : ∀ ρ, Rho L ρ → QV P w0 (execOp ρ ⟨d, .binOp .sub t x y t', ty, pos, af, gd⟩) R (.int k r) :=
  QV_bin hx hy fun w => by simp [eqGuard, binOp, Op.intArith, hr]
theorem QV_mul (hx : Ev L x (.int k a)) (hy : Ev L y (.int k b)) (hr : k.wrap (a * b) = r) : ∀ ρ, Rho L ρ → QV P w0 (execOp ρ ⟨d, .binOp .mul t x y t', ty, pos, af, gd⟩) R (.int k r) :=
  QV_bin hx hy fun w => by simp [eqGuard, binOp, Op.intArith, hr]
theorem QV_quo (hx : Ev L x (.int k a)) (hy : Ev L y (.int k b)) (hb : b ≠ 0) (hr : k.wrap (a.tdiv b) = r) : ∀ ρ, Rho L ρ → QV P w0 (execOp ρ ⟨d, .binOp .quo t x y t', ty, pos, af, gd⟩) R (.int k r) :=
  QV_bin hx hy fun w => by simp [eqGuard, binOp, Op.intDiv, hb, hr]
theorem QV_rem (hx : Ev L x (.int k a)) (hy : Ev L y (.int k b)) (hb : b ≠ 0) (hr : a.tmod b = r) : ∀ ρ, Rho L ρ → QV P w0 (execOp ρ ⟨d, .binOp .rem t x y t', ty, pos, af, gd⟩) R (.int k r) :=
  QV_bin hx hy fun w => by simp [eqGuard, binOp, Op.intDiv, hb, hr]
theorem QV_lss (hx : Ev L x (.int k a)) (hy : Ev L y (.int k b)) : ∀ ρ, Rho L ρ → QV P w0 (execOp ρ ⟨d, .binOp .lss t x y t', ty, pos, af, gd⟩) R (.bool (decide (a < b))) :=
  QV_bin hx hy fun w => by simp [eqGuard, binOp, Op.intCmp]
theorem QV_leq (hx : Ev L x (.int k a)) (hy : Ev L y (.int k b)) : ∀ ρ, Rho L ρ → QV P w0 (execOp ρ ⟨d, .binOp .leq t x y t', ty, pos, af, gd⟩) R (.bool (decide (a ≤ b))) :=
  QV_bin hx hy fun w => by simp [eqGuard, binOp, Op.intCmp]
theorem QV_gtr (hx : Ev L x (.int k a)) (hy : Ev L y (.int k b)) : ∀ ρ, Rho L ρ → QV P w0 (execOp ρ ⟨d, .binOp .gtr t x y t', ty, pos, af, gd⟩) R (.bool (decide (a > b))) :=
  QV_bin hx hy fun w => by simp [eqGuard, binOp, Op.intCmp]
theorem QV_geq (hx : Ev L x (.int k a)) (hy : Ev L y (.int k b)) : ∀ ρ, Rho L ρ → QV P w0 (execOp ρ ⟨d, .binOp .geq t x y t', ty, pos, af, gd⟩) R (.bool (decide (a ≥ b))) :=
  QV_bin hx hy fun w => by simp [eqGuard, binOp, Op.intCmp]
theorem QV_eql (hx : Ev L x (.int k a)) (hy : Ev L y (.int k b)) : ∀ ρ, Rho L ρ → QV P w0 (execOp ρ ⟨d, .binOp .eql t x y t', ty, pos, af, gd⟩) R (.bool ((a == b))) :=
  QV_bin hx hy fun w => by simp [eqGuard, binOp, Op.intCmp]
theorem QV_neq (hx : Ev L x (.int k a)) (hy : Ev L y (.int k b)) : ∀ ρ, Rho L ρ → QV P w0 (execOp ρ ⟨d, .binOp .neq t x y t', ty, pos, af, gd⟩) R (.bool ((a != b))) :=
  QV_bin hx hy fun w => by simp [eqGuard, binOp, Op.intCmp]
theorem QV_lss_y (hx : Ev L x (.int k a)) (hy : Ev L y (.int k b)) (h : a < b) : ∀ ρ, Rho L ρ → QV P w0 (execOp ρ ⟨d, .binOp .lss t x y t', ty, pos, af, gd⟩) R (.bool true) := by
  have e : (decide (a < b)) = true := by simp <;> omega
  rw [← e]
  exact QV_lss hx hy
theorem QV_lss_n (hx : Ev L x (.int k a)) (hy : Ev L y (.int k b)) (h : b ≤ a) : ∀ ρ, Rho L ρ → QV P w0 (execOp ρ ⟨d, .binOp .lss t x y t', ty, pos, af, gd⟩) R (.bool false) := by
  have e : (decide (a < b)) = false := by simp <;> omega
  rw [← e]
  exact QV_lss hx hy
theorem QV_leq_y (hx : Ev L x (.int k a)) (hy : Ev L y (.int k b)) (h : a ≤ b) : ∀ ρ, Rho L ρ → QV P w0 (execOp ρ ⟨d, .binOp .leq t x y t', ty, pos, af, gd⟩) R (.bool true) := by
  have e : (decide (a ≤ b)) = true := by simp <;> omega
  rw [← e]
  exact QV_leq hx hy
theorem QV_leq_n (hx : Ev L x (.int k a)) (hy : Ev L y (.int k b)) (h : b < a) : ∀ ρ, Rho L ρ → QV P w0 (execOp ρ ⟨d, .binOp .leq t x y t', ty, pos, af, gd⟩) R (.bool false) := by
  have e : (decide (a ≤ b)) = false := by simp <;> omega
  rw [← e]
  exact QV_leq hx hy
theorem QV_gtr_y (hx : Ev L x (.int k a)) (hy : Ev L y (.int k b)) (h : b < a) : ∀ ρ, Rho L ρ → QV P w0 (execOp ρ ⟨d, .binOp .gtr t x y t', ty, pos, af, gd⟩) R (.bool true) := by
  have e : (decide (a > b)) = true := by simp <;> omega
  rw [← e]
  exact QV_gtr hx hy
theorem QV_gtr_n (hx : Ev L x (.int k a)) (hy : Ev L y (.int k b)) (h : a ≤ b) : ∀ ρ, Rho L ρ → QV P w0 (execOp ρ ⟨d, .binOp .gtr t x y t', ty, pos, af, gd⟩) R (.bool false) := by
  have e : (decide (a > b)) = false := by simp <;> omega
  rw [← e]
  exact QV_gtr hx hy
theorem QV_geq_y (hx : Ev L x (.int k a)) (hy : Ev L y (.int k b)) (h : b ≤ a) : ∀ ρ, Rho L ρ → QV P w0 (execOp ρ ⟨d, .binOp .geq t x y t', ty, pos, af, gd⟩) R (.bool true) := by
  have e : (decide (a ≥ b)) = true := by simp <;> omega
  rw [← e]
  exact QV_geq hx hy
theorem QV_geq_n (hx : Ev L x (.int k a)) (hy : Ev L y (.int k b)) (h : a < b) : ∀ ρ, Rho L ρ → QV P w0 (execOp ρ ⟨d, .binOp .geq t x y t', ty, pos, af, gd⟩) R (.bool false) := by
  have e : (decide (a ≥ b)) = false := by simp <;> omega
  rw [← e]
  exact QV_geq hx hy
theorem QV_eql_y (hx : Ev L x (.int k a)) (hy : Ev L y (.int k b)) (h : a = b) : ∀ ρ, Rho L ρ → QV P w0 (execOp ρ ⟨d, .binOp .eql t x y t', ty, pos, af, gd⟩) R (.bool true) := by
  have e : ((a == b)) = true := by simp <;> omega
  rw [← e]
  exact QV_eql hx hy
theorem QV_eql_n (hx : Ev L x (.int k a)) (hy : Ev L y (.int k b)) (h : a ≠ b) : ∀ ρ, Rho L ρ → QV P w0 (execOp ρ ⟨d, .binOp .eql t x y t', ty, pos, af, gd⟩) R (.bool false) := by
  have e : ((a == b)) = false := by simp <;> omega
  rw [← e]
  exact QV_eql hx hy
theorem QV_neq_y (hx : Ev L x (.int k a)) (hy : Ev L y (.int k b)) (h : a ≠ b) : ∀ ρ, Rho L ρ → QV P w0 (execOp ρ ⟨d, .binOp .neq t x y t', ty, pos, af, gd⟩) R (.bool true) := by
  have e : ((a != b)) = true := by simp <;> omega
  rw [← e]
  exact QV_neq hx hy
theorem QV_neq_n (hx : Ev L x (.int k a)) (hy : Ev L y (.int k b)) (h : a = b) : ∀ ρ, Rho L ρ → QV P w0 (execOp ρ ⟨d, .binOp .neq t x y t', ty, pos, af, gd⟩) R (.bool false) := by
  have e : ((a != b)) = false := by simp <;> omega
  rw [← e]
  exact QV_neq hx hy
theorem QV_shl {k' : IntKind} (hx : Ev L x (.int k a)) (hy : Ev L y (.int k' b)) (h0 : 0 ≤ b) (hr : k.wrap (a * 2 ^ (min b.toNat k.bits)) = r) : ∀ ρ, Rho L ρ → QV P w0 (execOp ρ ⟨d, .binOp .shl t x y t', ty, pos, af, gd⟩) R (.int k r) :=
  QV_bin hx hy fun w => by simp [eqGuard, binOp, Op.shift, Int.not_lt.2 h0, hr]
theorem QV_shr {k' : IntKind} (hx : Ev L x (.int k a)) (hy : Ev L y (.int k' b)) (h0 : 0 ≤ b) (hr : a.fdiv (2 ^ (min b.toNat k.bits)) = r) : ∀ ρ, Rho L ρ → QV P w0 (execOp ρ ⟨d, .binOp .shr t x y t', ty, pos, af, gd⟩) R (.int k r) :=
  QV_bin hx hy fun w => by simp [eqGuard, binOp, Op.shift, Int.not_lt.2 h0, hr]
theorem QV_cvt {u v : TypeDesc} {k' : IntKind} {s : TypeId} (hs : P.underlying s = some u) (ht : P.underlying t = some v) (hv : v = .int k') (hx : Ev L x (.int k a)) (hr : k'.wrap a = r) : ∀ ρ, Rho L ρ → QV P w0 (execOp ρ ⟨d, .convert s t x, ty, pos, af, gd⟩) R (.int k' r) :=
  QV_conv hx fun w _ => by
    subst hv
    simp [convert, run_underlying hs, run_underlying ht, Conv.intToInt, hr]
theorem QV_max2 {tys : Array TypeId} (hx : Ev L x (.int k a)) (hy : Ev L y (.int k b)) : ∀ ρ, Rho L ρ → QV P w0 (execOp ρ ⟨d, .call ⟨.builtin .max, #[x, y], tys⟩, ty, pos, af, gd⟩) R (.int k (max a b)) := by
  intro ρ hρ w _
  simp [execOp, resolve, hρ _ _ hx, hρ _ _ hy, invoke, builtin, Builtin.max_, Builtin.max2, Result.andThen]
  omega
theorem QV_min3 {tys : Array TypeId} {z : Operand} {c : Int} (hx : Ev L x (.int k a)) (hy : Ev L y (.int k b)) (hz : Ev L z (.int k c)) : ∀ ρ, Rho L ρ → QV P w0 (execOp ρ ⟨d, .call ⟨.builtin .min, #[x, y, z], tys⟩, ty, pos, af, gd⟩) R (.int k (min (min a b) c)) := by
  intro ρ hρ w _
  have e1 : ∀ p q : Int, (if q < p then q else p) = min p q := by intro p q; omega
  simp [execOp, resolve, hρ _ _ hx, hρ _ _ hy, hρ _ _ hz, invoke, builtin, Builtin.min_, Builtin.min2, Result.andThen, e1]
theorem QV_min2 {tys : Array TypeId} (hx : Ev L x (.int k a)) (hy : Ev L y (.int k b)) : ∀ ρ, Rho L ρ → QV P w0 (execOp ρ ⟨d, .call ⟨.builtin .min, #[x, y], tys⟩, ty, pos, af, gd⟩) R (.int k (min a b)) := by
  intro ρ hρ w _
  simp [execOp, resolve, hρ _ _ hx, hρ _ _ hy, invoke, builtin, Builtin.min_, Builtin.min2, Result.andThen]
  omega
end

/-! ### results -/
theorem Lv_tmp {fn : Func} {R' : List Asn} {Φ : Value → List Asn → Prop} {t : Tmp} {v : Value} (hr : fn.results = #[.tmp t]) (hv : L[t]? = some v) (h : Φ v R') (hle : Le w0 R R') : Lv P w0 fn L.toArray Φ [] R := by
  refine ⟨v, R', fun w _ => ?_, hle, h⟩
  obtain ⟨hi, hv⟩ := List.getElem?_eq_some_iff.1 hv
  simp [results, hr, hi, hv]
theorem Lv_none {fn : Func} {R' : List Asn} {Φ : Value → List Asn → Prop} (hr : fn.results = #[]) (h : Φ (.tuple #[]) R') (hle : Le w0 R R') : Lv P w0 fn L.toArray Φ [] R :=
  ⟨_, R', fun w _ => by simp [results, hr], hle, h⟩
theorem Lv_tmp2 {fn : Func} {R' : List Asn} {Φ : Value → List Asn → Prop} {t s : Tmp} {v u : Value} (hr : fn.results = #[.tmp t, .tmp s]) (hv : L[t]? = some v) (hu : L[s]? = some u) (h : Φ (.tuple #[v, u]) R') (hle : Le w0 R R') : Lv P w0 fn L.toArray Φ [] R := by
  refine ⟨.tuple #[v, u], R', fun w _ => ?_, hle, h⟩
  obtain ⟨hi, hv⟩ := List.getElem?_eq_some_iff.1 hv
  obtain ⟨hj, hu⟩ := List.getElem?_eq_some_iff.1 hu
  simp [results, hr, hi, hv, hj, hu]
theorem Lv_tmp3 {fn : Func} {R' : List Asn} {Φ : Value → List Asn → Prop} {t s r : Tmp} {v u x : Value} (hr : fn.results = #[.tmp t, .tmp s, .tmp r]) (hv : L[t]? = some v) (hu : L[s]? = some u) (hx : L[r]? = some x) (h : Φ (.tuple #[v, u, x]) R') (hle : Le w0 R R') : Lv P w0 fn L.toArray Φ [] R := by
  refine ⟨.tuple #[v, u, x], R', fun w _ => ?_, hle, h⟩
  obtain ⟨hi, hv⟩ := List.getElem?_eq_some_iff.1 hv
  obtain ⟨hj, hu⟩ := List.getElem?_eq_some_iff.1 hu
  obtain ⟨hk, hx⟩ := List.getElem?_eq_some_iff.1 hx
  simp [results, hr, hi, hv, hj, hu, hk, hx]
theorem loadVar_agg {t : TypeId} {g n : Nat} {cs : Array Value} {e : TypeId} {fr : Nat × Nat} (ha : ∀ w, (isAgg t).run P w = .ok true w) (hs : ∀ w, (sizeOf t).run P w = .ok n w)
    (hm : pt g (.cells cs e fr) ∈ R) (hn : cs.size = n) {w : World} (hw : Holds w0 R w) : (loadVar t ⟨g, 0, none⟩).run P w = .ok (.agg cs) w := by
  have := QV_loadA (P := P) (w0 := w0) (R := R) (L := [.pointer (some ⟨g, 0, none⟩)]) (d := none) (ty := 0) (pos := "") (af := #[]) (gd := none) (t := t) (x := .tmp 0) (vs := cs.toList) (n := n)
    (Ev.tmp rfl) ha hs hm (by rw [List.drop_zero]; exact List.take_of_length_le (by simp; omega)) (by simpa using hn) (Act.eval ⟨#[.pointer (some ⟨g, 0, none⟩)], []⟩) (fun x u h => h []) w hw
  simp [execOp, Act.eval, Instr.loadAt, Instr.sureAddr, Result.andThen] at this
  cases hr : Sem.run P (loadVar t ⟨g, 0, none⟩) w with
  | ok a w' =>
    rw [hr] at this
    simp at this
    obtain ⟨rfl, rfl⟩ := this
    rfl
  | halt x w' =>
    rw [hr] at this
    simp at this
theorem Lv_cell {fn : Func} {R' : List Asn} {Φ : Value → List Asn → Prop} {t : Tmp} {ty : TypeId} {g n : Nat} {cs : Array Value} {e : TypeId} {fr : Nat × Nat} (hr : fn.results = #[.cell t ty]) (hv : L[t]? = some (.pointer (some ⟨g, 0, none⟩)))
    (ha : ∀ w, (isAgg ty).run P w = .ok true w) (hs : ∀ w, (sizeOf ty).run P w = .ok n w) (hm : pt g (.cells cs e fr) ∈ R) (hn : cs.size = n) (h : Φ (.agg cs) R') (hle : Le w0 R R') : Lv P w0 fn L.toArray Φ [] R := by
  refine ⟨.agg cs, R', fun w hw => ?_, hle, h⟩
  obtain ⟨hi, hv⟩ := List.getElem?_eq_some_iff.1 hv
  have hl := loadVar_agg (P := P) (w0 := w0) ha hs hm hn hw
  simp [results, hr, hi, hv, asAddr, hl, Result.andThen]
theorem Lv_cell_tmp {fn : Func} {R' : List Asn} {Φ : Value → List Asn → Prop} {t s : Tmp} {ty : TypeId} {g n : Nat} {cs : Array Value} {e : TypeId} {fr : Nat × Nat} {u : Value} (hr : fn.results = #[.cell t ty, .tmp s]) (hv : L[t]? = some (.pointer (some ⟨g, 0, none⟩)))
    (ha : ∀ w, (isAgg ty).run P w = .ok true w) (hs : ∀ w, (sizeOf ty).run P w = .ok n w) (hm : pt g (.cells cs e fr) ∈ R) (hn : cs.size = n) (hu : L[s]? = some u) (h : Φ (.tuple #[.agg cs, u]) R') (hle : Le w0 R R') : Lv P w0 fn L.toArray Φ [] R := by
  refine ⟨.tuple #[.agg cs, u], R', fun w hw => ?_, hle, h⟩
  obtain ⟨hi, hv⟩ := List.getElem?_eq_some_iff.1 hv
  obtain ⟨hj, hu⟩ := List.getElem?_eq_some_iff.1 hu
  have hl := loadVar_agg (P := P) (w0 := w0) ha hs hm hn hw
  simp [results, hr, hi, hv, hj, hu, asAddr, hl, Result.andThen]
theorem Lv_cell_tmp2 {fn : Func} {R' : List Asn} {Φ : Value → List Asn → Prop} {t s s' : Tmp} {ty : TypeId} {g n : Nat} {cs : Array Value} {e : TypeId} {fr : Nat × Nat} {u u' : Value} (hr : fn.results = #[.cell t ty, .tmp s, .tmp s']) (hv : L[t]? = some (.pointer (some ⟨g, 0, none⟩)))
    (ha : ∀ w, (isAgg ty).run P w = .ok true w) (hs : ∀ w, (sizeOf ty).run P w = .ok n w) (hm : pt g (.cells cs e fr) ∈ R) (hn : cs.size = n) (hu : L[s]? = some u) (hu' : L[s']? = some u') (h : Φ (.tuple #[.agg cs, u, u']) R') (hle : Le w0 R R') : Lv P w0 fn L.toArray Φ [] R := by
  refine ⟨.tuple #[.agg cs, u, u'], R', fun w hw => ?_, hle, h⟩
  obtain ⟨hi, hv⟩ := List.getElem?_eq_some_iff.1 hv
  obtain ⟨hj, hu⟩ := List.getElem?_eq_some_iff.1 hu
  obtain ⟨hj', hu'⟩ := List.getElem?_eq_some_iff.1 hu'
  have hl := loadVar_agg (P := P) (w0 := w0) ha hs hm hn hw
  simp [results, hr, hi, hv, hj, hu, hj', hu', asAddr, hl, Result.andThen]
end Go.Hw
