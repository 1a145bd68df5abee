/- The hidden world: from a law's contract to its row: what the arguments hold, opened; the row's post. Own work; after the kit's laws on readings. Program-independent. -/
import Derived.Test.YtcilfoicoambhaaFwRange
import Derived.ProofKit
import Derived.Deep.Slices
set_option linter.unusedVariables false
set_option linter.unusedSimpArgs false
namespace Go.Hw
open Go Go.RowKit Go.ChangeShapes Go.WideShapes

section
variable {H : Type} {enc : TypeId × Value → H} {P : Program} {W : World}

/-- The cells cs read as a value of type t. -/
def RdC (enc : TypeId × Value → H) (P : Program) (W : World) (t : TypeId) (cs : List Value) : Prop := ∃ fuel x, DataW.trod enc P W 0 (fun _ => true) true fuel t cs = some x

theorem RdC.of {t : TypeId} {v : Value} {d : DataW H} {ps : List MemPlace} (h : DataW.Trod enc P W 0 (fun _ => true) true t v d ps) : RdC enc P W t v.cells.toList := by
  obtain ⟨n, h⟩ := h
  exact ⟨n, _, h⟩
theorem RdC.int {t : TypeId} {k : IntKind} {cs : List Value} (ht : P.underlying t = some (.int k)) (h : RdC enc P W t cs) : ∃ n, cs = [.int k n] ∧ (Lit.int k n).wf = true := by
  obtain ⟨_, _, h⟩ := h
  obtain ⟨n, h1, _, h2⟩ := DataW.trod_int ht h
  exact ⟨n, h1, h2⟩
theorem RdC.bool {t : TypeId} {cs : List Value} (ht : P.underlying t = some .bool) (h : RdC enc P W t cs) : ∃ b, cs = [.bool b] := by
  obtain ⟨_, _, h⟩ := h
  obtain ⟨b, h1, _⟩ := DataW.trod_bool ht h
  exact ⟨b, h1⟩
theorem RdC.str {t : TypeId} {cs : List Value} (ht : P.underlying t = some .string) (h : RdC enc P W t cs) : ∃ s : ByteArray, cs = [.string s] ∧ s.size ≤ maxLen := by
  obtain ⟨_, _, h⟩ := h
  obtain ⟨b, h1, _, h2⟩ := DataW.trod_string ht h
  exact ⟨b, h1, h2⟩
theorem RdC.struct {t : TypeId} {fs : Array Field} {cs : List Value} (ht : P.underlying t = some (.struct fs)) (h : RdC enc P W t cs) :
    cs.length = P.cellsOf t ∧ ∀ (i : Nat) (f : Field), fs[i]? = some f → RdC enc P W f.type ((cs.drop f.offset).take (P.cellsOf f.type)) := by
  obtain ⟨_, _, h⟩ := h
  obtain ⟨xs, n, _, _, hl, hx, hi⟩ := DataW.trod_struct ht h
  refine ⟨hl, fun i f hf => ?_⟩
  have h1 := hi i f hf
  have hlt : i < xs.length := by rw [hx]; exact (Array.getElem?_eq_some_iff.1 hf).1
  rw [List.getElem?_eq_getElem hlt] at h1
  exact ⟨_, _, h1⟩
theorem RdC.arr {t e : TypeId} {n : Nat} {cs : List Value} (ht : P.underlying t = some (.array n e)) (h : RdC enc P W t cs) :
    cs.length = P.cellsOf t ∧ ∀ i, i < n → RdC enc P W e ((cs.drop (i * P.cellsOf e)).take (P.cellsOf e)) := by
  obtain ⟨fuel, x, h⟩ := h
  cases fuel with
  | zero => simp [DataW.trod] at h
  | succ fuel =>
    unfold DataW.trod at h
    rw [ht] at h
    simp only at h
    split at h
    · rename_i hl
      refine ⟨hl, fun i hi => ?_⟩
      obtain ⟨xs, hx, _⟩ := Option.map_eq_some_iff.1 h
      have hlen : xs.length = n := by simpa using mapM_some_length hx
      have h2 := mapM_some_get hx i i (by simp [hi])
      have hlt : i < xs.length := by omega
      rw [List.getElem?_eq_getElem hlt] at h2
      exact ⟨_, _, h2⟩
    · cases h

theorem RdC.slice {t e : TypeId} {sz : Nat} {cs : List Value} (ht : P.underlying t = some (.slice e)) (hsz : P.cellsOf e = sz) (h : RdC enc P W t cs) :
    ∃ A n c, ∃ rows : List (List Value), cs = [.slice A n c] ∧ n ≤ c ∧ c ≤ maxLen ∧ rows.length = n ∧ (∀ r ∈ rows, r.length = sz ∧ RdC enc P W e r) ∧
      (0 < n → ∃ a, A = some a) ∧ ∀ a, A = some a → ∀ i r, rows[i]? = some r → ∀ j u, r[j]? = some u → W.cell? (a.add (i * sz + j)) = some u := by
  obtain ⟨fuel, x, h⟩ := h
  subst hsz
  rcases Deep.open_slice ht h with ⟨rfl, _⟩ | ⟨a, len, cap, m, n, D, Pl, rfl, _, hl, hm, hmm, _, hx⟩
  · exact ⟨none, 0, 0, [], rfl, Nat.le_refl _, by simp [maxLen], rfl, by simp, fun h => absurd h (Nat.lt_irrefl _), by simp⟩
  · have hle : len ≤ m := by rw [hmm]; split <;> omega
    obtain ⟨f, hf⟩ := Deep.choose_lt (α := List Value) (n := len) (p := fun i cs' => W.cells? 0 (a.add (i * P.cellsOf e)) (P.cellsOf e) = some cs' ∧ RdC enc P W e cs') (fun i hi => by
      obtain ⟨cs', h1, h2⟩ := hx i (by omega)
      exact ⟨cs', h1, _, _, h2⟩)
    refine ⟨some a, len, cap, (List.range len).map f, rfl, hl, hm, by simp, ?_, fun _ => ⟨a, rfl⟩, ?_⟩
    · intro r hr
      obtain ⟨i, hi, rfl⟩ := List.mem_map.1 hr
      obtain ⟨h1, h2⟩ := hf i (List.mem_range.1 hi)
      exact ⟨(World.cells?_some h1).2.1, h2⟩
    · rintro a' e' i r hr j u hu
      injection e' with e'
      subst e'
      rw [List.getElem?_map] at hr
      obtain ⟨i', hi', rfl⟩ := Option.map_eq_some_iff.1 hr
      have hil := (List.getElem?_eq_some_iff.1 hi').1
      have : i' = i := by
        have := (List.getElem?_eq_some_iff.1 hi').2
        simpa using this.symm
      subst this
      obtain ⟨h1, h2⟩ := hf i' (by simpa using hil)
      obtain ⟨_, hlen, hc⟩ := World.cells?_some h1
      have hj := (List.getElem?_eq_some_iff.1 hu).1
      have := hc j (by omega)
      rw [Deep.add_add] at this
      rw [this, hu]

/-- Rows are values told by a function. -/
theorem rows_of {α : Type} {enc' : α → List Value} {p : α → Prop} : ∀ (rows : List (List Value)), (∀ r ∈ rows, ∃ x, r = enc' x ∧ p x) → ∃ xs : List α, rows = xs.map enc' ∧ ∀ x ∈ xs, p x
  | [], _ => ⟨[], rfl, by simp⟩
  | r :: rows, h => by
    obtain ⟨x, rfl, hx⟩ := h r (List.mem_cons_self ..)
    obtain ⟨xs, rfl, hxs⟩ := rows_of rows (fun r hr => h r (List.mem_cons_of_mem _ hr))
    exact ⟨x :: xs, rfl, fun y hy => by
      rcases List.mem_cons.1 hy with rfl | hy
      · exact hx
      · exact hxs y hy⟩
theorem flat_get {rows : List (List Value)} {sz : Nat} (hsz : 0 < sz) (hl : ∀ r ∈ rows, r.length = sz) : ∀ (k : Nat) (u : Value), rows.flatten[k]? = some u → ∃ r, rows[k / sz]? = some r ∧ r[k % sz]? = some u := by
  induction rows with
  | nil => intro k u h; simp at h
  | cons r rows ih =>
    intro k u h
    have hr := hl r (List.mem_cons_self ..)
    rw [List.flatten_cons] at h
    rcases Nat.lt_or_ge k sz with hk | hk
    · rw [List.getElem?_append_left (by omega)] at h
      exact ⟨r, by rw [Nat.div_eq_of_lt hk]; rfl, by rw [Nat.mod_eq_of_lt hk]; exact h⟩
    · rw [List.getElem?_append_right (by omega), hr] at h
      obtain ⟨r', h1, h2⟩ := ih (fun r hr => hl r (List.mem_cons_of_mem _ hr)) (k - sz) u h
      refine ⟨r', ?_, ?_⟩
      · rw [Nat.div_eq_sub_div hsz hk]; simpa using h1
      · rw [Nat.mod_eq_sub_mod hk]; exact h2
theorem flat_len {rows : List (List Value)} {sz : Nat} (hl : ∀ r ∈ rows, r.length = sz) : rows.flatten.length = rows.length * sz := by
  induction rows with
  | nil => simp
  | cons r rows ih =>
    have h1 := hl r (List.mem_cons_self ..)
    have h2 := ih (fun r hr => hl r (List.mem_cons_of_mem _ hr))
    rw [List.flatten_cons, List.length_append, h1, h2, List.length_cons, Nat.add_mul, Nat.one_mul, Nat.add_comm]

/-- A slice of values that are told by a function, in memory that lies ahead of the call. -/
theorem RdC.list {α : Type} (enc' : α → List Value) (p : α → Prop) {t e : TypeId} {sz : Nat} {cs : List Value} (ht : P.underlying t = some (.slice e)) (hsz : P.cellsOf e = sz) (hpos : 0 < sz)
    (hlen : ∀ x, (enc' x).length = sz) (h1 : ∀ x, ∀ u ∈ enc' x, u.oneCell' = true) (hdec : ∀ r, r.length = sz → RdC enc P W e r → ∃ x, r = enc' x ∧ p x) (h : RdC enc P W t cs) :
    ∃ A c, ∃ xs : List α, cs = [.slice A xs.length c] ∧ xs.length ≤ c ∧ c ≤ maxLen ∧ (∀ x ∈ xs, p x) ∧ Sl W [] sz A xs.length (xs.flatMap enc') := by
  obtain ⟨A, n, c, rows, rfl, hnc, hc, hrl, hrows, haddr, hcell⟩ := RdC.slice ht hsz h
  obtain ⟨xs, rfl, hp⟩ := rows_of (enc' := enc') (p := p) rows (fun r hr => hdec r (hrows r hr).1 (hrows r hr).2)
  obtain rfl : xs.length = n := by simpa using hrl
  have hl : ∀ r ∈ xs.map enc', r.length = sz := fun r hr => (hrows r hr).1
  have hfl : (xs.flatMap enc').length = xs.length * sz := by
    rw [List.flatMap_def, flat_len hl, List.length_map]
  have hsome : ∀ a, A = some a → ∀ j u, (xs.flatMap enc')[j]? = some u → W.cell? (a.add j) = some u := by
    intro a ha j u hu
    rw [List.flatMap_def] at hu
    obtain ⟨r, hr1, hr2⟩ := flat_get hpos hl j u hu
    have := hcell a ha (j / sz) r hr1 (j % sz) u hr2
    rwa [show j / sz * sz + j % sz = j by rw [Nat.mul_comm]; exact Nat.div_add_mod j sz] at this
  refine ⟨A, c, xs, rfl, hnc, hc, hp, hfl, ?_, ?_, ?_⟩
  · intro u hu
    obtain ⟨x, _, hx⟩ := List.mem_flatMap.1 hu
    exact h1 x u hx
  · intro hn
    obtain ⟨a, rfl⟩ := haddr hn
    have h0 : 0 < (xs.flatMap enc').length := by rw [hfl]; exact Nat.mul_pos hn hpos
    have := hsome a rfl 0 _ (List.getElem?_eq_getElem h0)
    have e0 : a.add 0 = a := by simp [Addr.add]
    rw [e0] at this
    obtain ⟨g, off, sp⟩ := a
    cases sp with
    | none => exact ⟨g, off, rfl⟩
    | some s =>
      exfalso
      unfold World.cell? at this
      split at this
      · simp at this
      · cases this
  · rintro g off rfl w hw j u hu
    have hc1 := hsome _ rfl j u hu
    have hadd : (⟨g, off, none⟩ : Addr).add j = ⟨g, off + j, none⟩ := by unfold Addr.add; split <;> simp_all
    rw [hadd] at hc1
    have hg : g < W.heap.size := by
      rcases Nat.lt_or_ge g W.heap.size with h | h
      · exact h
      · exfalso
        unfold World.cell? at hc1
        rw [Array.getElem?_eq_none h] at hc1
        cases hc1
    rw [World.cell?_of_block (w := W) (hw.old g hg)]
    exact hc1

theorem u8_wf {n : Int} (h : (Lit.int .u8 n).wf = true) : ∃ b : UInt8, n = (b.toNat : Int) := by
  have h1 : 0 ≤ n ∧ n < 256 := by
    simp [Lit.wf, IntKind.min, IntKind.max, IntKind.bits, IntKind.signed] at h
    omega
  refine ⟨UInt8.ofNat n.toNat, ?_⟩
  rw [UInt8.toNat_ofNat']
  omega
theorem flatMap_u8 (xs : List UInt8) : (xs.flatMap fun b => [Value.int .u8 (b.toNat : Int)]) = u8C xs := by
  induction xs with
  | nil => rfl
  | cons x xs ih => rw [List.flatMap_cons, ih]; rfl
/-- A slice of bytes. -/
theorem RdC.bytes {t e : TypeId} {cs : List Value} (ht : P.underlying t = some (.slice e)) (he : P.underlying e = some (.int .u8)) (hsz : P.cellsOf e = 1) (h : RdC enc P W t cs) :
    ∃ A c, ∃ xs : List UInt8, cs = [.slice A xs.length c] ∧ xs.length ≤ c ∧ c ≤ maxLen ∧ Sl W [] 1 A xs.length (u8C xs) := by
  obtain ⟨A, c, xs, h1, h2, h3, _, h4⟩ := RdC.list (fun b : UInt8 => [Value.int .u8 (b.toNat : Int)]) (fun _ => True) ht hsz (by decide) (fun _ => rfl) (by intro x u hu; rw [List.mem_singleton] at hu; subst hu; rfl)
    (fun r _ hr => by obtain ⟨n, rfl, hw⟩ := RdC.int he hr; obtain ⟨b, rfl⟩ := u8_wf hw; exact ⟨b, rfl, trivial⟩) h
  rw [flatMap_u8] at h4
  exact ⟨A, c, xs, h1, h2, h3, h4⟩

/-! ### the row -/
def typesRowed (P : Program) (ts : List TypeId) : Bool := ts.all fun t => P.readableRec t && decide (t < P.types.size)
theorem Below.trodAll (hl : laidOutB P = true) {W W' : World} (hb : Below W.heap.size W W') {sp : Nat → Bool} : ∀ {ts : List TypeId} {vs : List Value} {ds : List (DataW H)} {ps : List MemPlace}, typesRowed P ts = true →
    DataW.TrodAll enc P W 0 (fun _ => true) true ts vs ds ps → (∀ p ∈ ps, p.block < W.heap.size) → (∀ p ∈ ps, sp p.block = true) → DataW.TrodAll enc P W' 0 sp true ts vs ds ps
  | [], vs, ds, ps, _, h, _, _ => by
    obtain ⟨rfl, rfl, rfl⟩ := trodAll_nil h
    exact rfl
  | t :: ts, vs, ds, ps, ht, h, hlt, hsp => by
    obtain ⟨v, vs', d, ds', p, q, rfl, rfl, rfl, h1, h2⟩ := trodAll_cons h
    simp only [typesRowed, List.all_cons, Bool.and_eq_true] at ht
    refine ⟨p, q, ?_, ?_, rfl⟩
    · exact WideElems.Trod_stays hl ht.1.1 (by simpa using ht.1.2) h1 (fun x hx => hb.same (hlt x (List.mem_append_left _ hx))) (fun x hx => hsp x (List.mem_append_left _ hx))
    · exact Below.trodAll hl hb (by simpa [typesRowed] using ht.2) h2 (fun x hx => hlt x (List.mem_append_right _ hx)) (fun x hx => hsp x (List.mem_append_right _ hx))

theorem law_post {f : Func} {s : ChangeSpec} {apart fresh handsOn : Bool} {W W' : World} {args : Array Value} {ds gs : List (DataW H)} {before : List MemPlace} {tb : TypeId}
    (hl : laidOutB P = true) (hty : typesRowed P f.params.toList = true) (hres : f.resultTypes = #[tb]) (htb : P.underlying tb = some .bool) (hvars : s.vars = [])
    (hW : DataW.Whole enc P f.params.toList s.vars apart W args.toList ds gs before) (hfn : s.fn H (ds ++ gs) = { results := [.lit (.bool true)], args := ds }) (hb : Below W.heap.size W W') :
    s.post enc P f apart fresh handsOn false W args (.bool true) W' := by
  have hlt : ∀ p ∈ before, p.block < W.heap.size := fun p hp => hW.lt p hp
  have hW2 := hW
  obtain ⟨p, q, hA, hV, rfl, hfz, hnd⟩ := hW2
  rw [hvars] at hV
  obtain ⟨rfl, rfl⟩ := trodVars_none hV
  rw [List.append_nil] at hlt hW
  have e1 : s.fn H (ds ++ []) = { results := [.lit (.bool true)], args := ds } := hfn
  refine ⟨ds, [], p, [], p, [], hW, ?_, ?_, ?_, World.keptBut_mono (fun x hx => ⟨hx, .inr (.inl hx)⟩) (hb.frame (· ∈ p)), fun h => by cases h⟩
  · rw [e1, hres]
    refine ⟨[], [], ⟨1, ?_⟩, rfl, rfl⟩
    have : (Value.bool true).cells.toList = [.bool true] := rfl
    simp only [Array.size_singleton, Value.resultList, this]
    unfold DataW.trod
    rw [htb]
  · rw [e1]
    exact Below.trodAll hl hb hty hA hlt (fun x hx => by simpa using hlt x hx)
  · rw [hvars]
    show DataW.TrodVars enc P W' _ [] (s.fn H (ds ++ [])).vars []
    rw [e1]
    rfl

/-- A law whose contract says that it returns true. -/
theorem law_calls {f : FuncId} {args : Array Value} {W : World} {Φ : Value → List Asn → Prop} (h : CH P W f args [] Φ) (hΦ : ∀ v R, Φ v R → v = .bool true) :
    Calls P f args W fun e W' => e = .returned (.bool true) ∧ Below W.heap.size W W' :=
  (h W (Holds.nil W)).mono fun e W' ⟨v, R', he, hR, hv⟩ => by
    rw [hΦ v R' hv] at he
    exact ⟨he, hR.below⟩
end
end Go.Hw
