import Derived.Test.YtcilfoicoambhaaSt13
import Derived.Test.YtcilfoicoambhaaFwStar
set_option linter.unusedVariables false
set_option linter.unusedSimpArgs false
set_option maxRecDepth 20000
set_option maxHeartbeats 1000000
namespace Go.Proofs.Ytcilfoicoambhaa
open Go Go.Hw Go.RowKit

variable {w0 : World} {R : List Asn}

/-- How a sender stands that is not reset. -/
structure SS where
  id : Nat
  credit : Nat
  fresh : Nat
  last : Bool
  fin : Nat
  xs : List UInt8
  lost : List Run
  came : List Run
abbrev SS.parts (s : SS) (b : Nat) (V : Value × Value × Value) : List Asn :=
  [pt b (.cells (sndC s.id s.credit V.1 s.fresh V.2.1 V.2.2 s.last s.fin false) 105 (0, 0)), own 5 1 V.1 s.xs.length (u8C s.xs), own 107 2 V.2.1 s.lost.length (runC s.lost), own 107 2 V.2.2 s.came.length (runC s.came)]
/-- A sender in memory; V: where its bytes and its runs lie. -/
def snd (b : Nat) (s : SS) (V : Value × Value × Value) : Asn := stars (s.parts b V)
def SS.isEnd (s : SS) (t : Nat) : Bool := s.last && t == s.xs.length
def SS.told (s : SS) (t : Nat) : SS := { s with fin := if s.isEnd t && s.fin != 3 then 1 else s.fin }

theorem fin_cast (c : Bool) (e x : Nat) : (if c && ((e : Nat) : Int) != 3 then (x : Int) else (e : Int)) = ((if c && e != 3 then x else e : Nat) : Int) := by
  have h : (((e : Nat) : Int) != 3) = (e != 3) := by rw [Bool.eq_iff_iff]; simp; omega
  rw [h]
  split <;> rfl

/-- New bytes are taken. -/
theorem take_new {b n fr m : Nat} {s s' : SS} {fin : Bool} {V : Value × Value × Value} (hl : s.lost = []) (hbl : s.xs.length ≤ 1048576) (hcr : s.credit ≤ 4611686018427387903) (hn : n ≤ 1000000) (hfr : fr ≤ 4611686018427387903)
    (hfb : s.fresh ≤ s.xs.length) (hm : min (min (min (s.xs.length - s.fresh) n) fr) (s.credit - s.fresh) = m) (hm0 : 0 < m) (hs' : ({ s with fresh := s.fresh + m } : SS).told (s.fresh + m) = s') (hfin : s.isEnd (s.fresh + m) = fin) :
    CH Try.prog w0 18 #[.pointer (some ⟨b, 0, none⟩), .int .i64 n, .int .u64 fr] (snd b s V :: R) fun v R' => ∃ gd, v = .tuple #[.agg (frmC s.id s.fresh fin (.slice (some ⟨gd, 0, none⟩) m m)), .bool true] ∧
        R' = pt gd (.cells (u8C ((s.xs.drop s.fresh).take m)).toArray 5 (0, 0)) :: snd b s' V :: R := by
  obtain ⟨id, credit, fresh, last, e, xs, lost, came⟩ := s
  subst hs' hfin
  simp only at hl hbl hcr hfb hm ⊢
  subst hl
  have h := take_fresh (w0 := w0) (R := own 107 2 V.2.2 came.length (runC came) :: R) (b := b) (id := id) (credit := credit) (fresh := fresh) (n := n) (fr := fr) (m := m) (fin := e) (bv := V.1) (lv := V.2.1) (cv := V.2.2) (last := last) (bs := u8C xs) (u8C_one _) (by rw [u8C_length]; exact hbl) hcr hn hfr (by rw [u8C_length]; exact hfb) (by rw [u8C_length]; omega) hm0
  rw [u8C_length, u8C_drop, u8C_take] at h
  refine CH_stars h ?_
  rintro v R' ⟨gd, rfl, rfl⟩
  refine ⟨_, ?_, gd, rfl, rfl⟩
  have e1 := fin_cast (last && fresh + m == xs.length) e 1
  simp only [Int.cast_ofNat_Int] at e1
  rw [e1]
  exact Le.skipS rfl

/-- There is nothing to be taken. -/
theorem take_no {b n fr : Nat} {s : SS} {V : Value × Value × Value} (hl : s.lost = []) (hbl : s.xs.length ≤ 1048576) (hcr : s.credit ≤ 4611686018427387903) (hn : n ≤ 1000000) (hfr : fr ≤ 4611686018427387903)
    (hfb : s.fresh ≤ s.xs.length) (hm : min (min (min (s.xs.length - s.fresh) n) fr) (s.credit - s.fresh) = 0) (hend : s.last = true → s.fresh ≠ s.xs.length) :
    CH Try.prog w0 18 #[.pointer (some ⟨b, 0, none⟩), .int .i64 n, .int .u64 fr] (snd b s V :: R) fun v R' => v = .tuple #[.agg frm0, .bool false] ∧ R' = snd b s V :: R := by
  obtain ⟨id, credit, fresh, last, e, xs, lost, came⟩ := s
  simp only at hl hbl hcr hfb hm hend ⊢
  subst hl
  have h := take_none (w0 := w0) (R := own 107 2 V.2.2 came.length (runC came) :: R) (b := b) (id := id) (credit := credit) (fresh := fresh) (n := n) (fr := fr) (fin := e) (bv := V.1) (lv := V.2.1) (cv := V.2.2) (last := last) (bs := u8C xs) (by rw [u8C_length]; exact hbl) hcr hn hfr (by rw [u8C_length]; exact hfb) (by rw [u8C_length]; omega) (by rw [u8C_length]; exact hend)
  rw [u8C_length] at h
  refine CH_stars h ?_
  rintro v R' ⟨rfl, rfl⟩
  exact ⟨_, Le.starS rfl, rfl, rfl⟩

/-- Lost bytes are taken again. -/
theorem take_again {b n fr f t k : Nat} {s s' : SS} {fin : Bool} {V : Value × Value × Value} {rest : List Run} (hl : s.lost = ((f : Int), (t : Int)) :: rest) (hbl : s.xs.length ≤ 1048576) (hn : n ≤ 1000000) (hn0 : 0 < n) (hft : f < t) (ht : t ≤ s.xs.length) (hk : k = min n (t - f)) (hsm : Small rest) (hlen : rest.length < 1000000)
    (hs' : ({ s with lost := withoutR s.lost f (f + k : Nat) } : SS).told (f + k) = s') (hfin : s.isEnd (f + k) = fin) :
    CH Try.prog w0 18 #[.pointer (some ⟨b, 0, none⟩), .int .i64 n, .int .u64 fr] (snd b s V :: R) fun v R' => ∃ gd V', v = .tuple #[.agg (frmC s.id f fin (.slice (some ⟨gd, 0, none⟩) k k)), .bool true] ∧
        R' = pt gd (.cells (u8C ((s.xs.drop f).take k)).toArray 5 (0, 0)) :: snd b s' V' :: R := by
  obtain ⟨id, credit, fresh, last, e, xs, lost, came⟩ := s
  subst hs' hfin
  simp only at hl hbl ht ⊢
  subst hl
  have h := take_lost (w0 := w0) (R := own 107 2 V.2.2 came.length (runC came) :: R) (b := b) (id := id) (credit := credit) (fresh := fresh) (n := n) (fr := fr) (f := f) (t := t) (k := k) (fin := e) (bv := V.1) (lv := V.2.1) (cv := V.2.2) (last := last) (bs := u8C xs) (rest := rest) (u8C_one _) (by rw [u8C_length]; exact hbl) hn hn0 hft (by rw [u8C_length]; exact ht) hk hsm hlen
  rw [u8C_length, u8C_drop, u8C_take] at h
  refine CH_stars h ?_
  rintro v R' ⟨gd, lv', rfl, rfl⟩
  refine ⟨_, ?_, gd, (V.1, lv', V.2.2), rfl, rfl⟩
  have e1 := fin_cast (last && f + k == xs.length) e 1
  simp only [Int.cast_ofNat_Int] at e1
  rw [e1]
  exact Le.skipS rfl

theorem snd_new {id credit : Nat} (hid : id ≤ 4611686018427387903) (hcr : credit ≤ 4611686018427387903) :
    CH Try.prog w0 15 #[.int .u64 id, .int .u64 credit] R fun v R' => ∃ b V, v = .tuple #[.pointer (some ⟨b, 0, none⟩), .int .i64 0] ∧ R' = snd b ⟨id, credit, 0, false, 0, [], [], []⟩ V :: R := by
  refine fun w hw => (newsender hid hcr w hw).mono ?_
  rintro e w' ⟨v, R', rfl, hR, b, rfl, rfl⟩
  exact ⟨_, _, rfl, hR.star (l := [_, _, _, _]), b, (.slice none 0 0, .slice none 0 0, .slice none 0 0), rfl, rfl⟩
theorem snd_write {b c : Nat} {s : SS} {V : Value × Value × Value} {last : Bool} {A : Option Addr} {xs : List UInt8} (hs : Sl w0 R 1 A xs.length (u8C xs)) (hl : s.last = false) (hnm : s.xs.length + xs.length ≤ 1048576) :
    CH Try.prog w0 16 #[.pointer (some ⟨b, 0, none⟩), .slice A xs.length c, .bool last] (snd b s V :: R) fun v R' => ∃ V', v = .int .i64 0 ∧ R' = snd b { s with xs := s.xs ++ xs, last := last } V' :: R := by
  obtain ⟨id, credit, fresh, last0, e, xs0, lost, came⟩ := s
  simp only at hl hnm ⊢
  subst hl
  have h := write_calls (w0 := w0) (R := own 107 2 V.2.1 lost.length (runC lost) :: own 107 2 V.2.2 came.length (runC came) :: R) (b := b) (id := id) (credit := credit) (fresh := fresh) (fin := e) (bv := V.1) (lv := V.2.1) (cv := V.2.2) (last := last) (bs := u8C xs0) (n := xs0.length) (m := xs.length) (c := c) (A := A) (cs := u8C xs) (hs.cons.cons) hnm
  refine CH_stars h ?_
  rintro v R' ⟨bv', rfl, rfl⟩
  refine ⟨_, ?_, (bv', V.2.1, V.2.2), rfl, rfl⟩
  rw [← u8C_append, ← List.length_append]
  exact Le.starS rfl
theorem snd_fresh {b : Nat} {s : SS} {V : Value × Value × Value} (h1 : s.fresh ≤ 2000000) :
    CH Try.prog w0 17 #[.pointer (some ⟨b, 0, none⟩)] (snd b s V :: R) fun v R' => v = .int .u64 s.fresh ∧ R' = snd b s V :: R := by
  refine CH_stars (fresh_calls (R := s.parts b V ++ R) (List.mem_cons_self ..) (by omega) (by omega)) ?_
  rintro v R' ⟨rfl, rfl⟩
  exact ⟨_, Le.starS rfl, rfl, rfl⟩
theorem snd_raise {b cr : Nat} {s : SS} {V : Value × Value × Value} (hcr : cr ≤ 4611686018427387903) :
    CH Try.prog w0 49 #[.pointer (some ⟨b, 0, none⟩), .int .u64 cr] (snd b s V :: R) fun v R' => v = .int .i64 0 ∧ R' = snd b { s with credit := max s.credit cr } V :: R := by
  refine CH_stars (raise_calls (R := [own 5 1 V.1 s.xs.length (u8C s.xs), own 107 2 V.2.1 s.lost.length (runC s.lost), own 107 2 V.2.2 s.came.length (runC s.came)] ++ R) hcr) ?_
  rintro v R' ⟨rfl, rfl⟩
  exact ⟨_, Le.starS rfl, rfl, rfl⟩
theorem snd_done_not {b : Nat} {s : SS} {V : Value × Value × Value} (he : s.fin ≠ 3) :
    CH Try.prog w0 44 #[.pointer (some ⟨b, 0, none⟩)] (snd b s V :: R) fun v R' => v = .bool false ∧ R' = snd b s V :: R := by
  refine CH_stars (done_not (R := s.parts b V ++ R) (List.mem_cons_self ..) (by omega)) ?_
  rintro v R' ⟨rfl, rfl⟩
  exact ⟨_, Le.starS rfl, rfl, rfl⟩
theorem snd_done_if {b : Nat} {s : SS} {V : Value × Value × Value} (he : s.fin = 3) (hx : 0 < s.xs.length) (hxs : s.xs.length ≤ 1048576) (hnc : s.came.length ≤ 1000000) :
    CH Try.prog w0 44 #[.pointer (some ⟨b, 0, none⟩)] (snd b s V :: R) fun v R' => v = .bool (decide (s.came = [(0, (s.xs.length : Int))])) ∧ R' = snd b s V :: R := by
  refine CH_stars (done_if (R := s.parts b V ++ R) (id := s.id) (credit := s.credit) (bv := V.1) (fresh := s.fresh) (lv := V.2.1) (cv := V.2.2) (last := s.last) (by simp [SS.parts, he]) (by simp) (by simp) hx hxs hnc) ?_
  rintro v R' ⟨rfl, rfl⟩
  exact ⟨_, Le.starS rfl, rfl, rfl⟩
/-- A frame came in there. -/
theorem snd_got {b off k c : Nat} {s s' : SS} {V : Value × Value × Value} {fin : Bool} {A : Option Addr}
    (hd : Sl w0 R 1 A k (u8C ((s.xs.drop off).take k))) (hl : Small s.lost) (hc : Small s.came) (hnl : s.lost.length ≤ 1000000) (hnc : s.came.length ≤ 1000000) (hk : 0 < k)
    (hok : off + k ≤ s.fresh) (hfr : s.fresh ≤ s.xs.length) (hxs : s.xs.length ≤ 1048576) (hid : s.id ≤ 4611686018427387903) (hfin : fin = true → s.last = true ∧ s.fin ≠ 0 ∧ off + k = s.xs.length)
    (hs' : ({ s with lost := withoutR s.lost off (off + k : Nat), came := wi s.came (off, (off + k : Nat)), fin := if fin then 3 else s.fin } : SS) = s') :
    CH Try.prog w0 41 #[.pointer (some ⟨b, 0, none⟩), .agg (frmC s.id off fin (.slice A k c))] (snd b s V :: R) fun v R' => ∃ V', v = .int .i64 0 ∧ R' = snd b s' V' :: R := by
  obtain ⟨id, credit, fresh, last, e, xs, lost, came⟩ := s
  subst hs'
  refine CH_stars (got_frame (e := e) (bv := V.1) (lv := V.2.1) (cv := V.2.2) hd hl hc hnl hnc hk hok hfr hxs hid (fun h => by obtain ⟨x1, x2, x3⟩ := hfin h; exact ⟨x1, by simp only at x2; omega, x3⟩)) ?_
  rintro v R' ⟨lv', cv', rfl, rfl⟩
  refine ⟨_, ?_, (V.1, lv', cv'), rfl, rfl⟩
  rw [show (if fin = true then (3 : Int) else (e : Int)) = ((if fin = true then 3 else e : Nat) : Int) by split <;> rfl]
  exact Le.starS rfl
/-- A frame did not come in. -/
theorem snd_lost {b off k c : Nat} {s s' : SS} {V : Value × Value × Value} {fin : Bool} {A : Option Addr}
    (hd : Sl w0 R 1 A k (u8C ((s.xs.drop off).take k))) (hc : Small s.came) (hnc : s.came.length ≤ 1000000)
    (h1 : ∀ q, q ≤ s.came.length → Small (goneL (s.came.take q) (off, (off + k : Nat))) ∧ (goneL (s.came.take q) (off, (off + k : Nat))).length ≤ 1000000)
    (h2 : ∀ q, q ≤ (goneL s.came (off, (off + k : Nat))).length → Small (wiAll s.lost ((goneL s.came (off, (off + k : Nat))).take q)) ∧ (wiAll s.lost ((goneL s.came (off, (off + k : Nat))).take q)).length ≤ 1000000)
    (hok : off + k ≤ s.fresh) (hfr : s.fresh ≤ s.xs.length) (hxs : s.xs.length ≤ 1048576) (hid : s.id ≤ 4611686018427387903) (hfin : fin = true → s.last = true ∧ s.fin ≠ 0 ∧ off + k = s.xs.length)
    (hs' : ({ s with lost := wiAll s.lost (goneL s.came (off, (off + k : Nat))), fin := if fin && s.fin != 3 then 2 else s.fin } : SS) = s') :
    CH Try.prog w0 42 #[.pointer (some ⟨b, 0, none⟩), .agg (frmC s.id off fin (.slice A k c))] (snd b s V :: R) fun v R' => ∃ V', v = .int .i64 0 ∧ R' = snd b s' V' :: R := by
  obtain ⟨id, credit, fresh, last, e, xs, lost, came⟩ := s
  subst hs'
  refine CH_stars (lost_frame (e := e) (bv := V.1) (lv := V.2.1) (cv := V.2.2) hd hc hnc h1 h2 hok hfr hxs hid (fun h => by obtain ⟨x1, x2, x3⟩ := hfin h; exact ⟨x1, by simp only at x2; omega, x3⟩)) ?_
  rintro v R' ⟨lv', rfl, rfl⟩
  refine ⟨_, ?_, (V.1, lv', V.2.2), rfl, rfl⟩
  have e1 := fin_cast fin e 2
  simp only [Int.cast_ofNat_Int] at e1
  rw [e1]
  exact Le.starS rfl
end Go.Proofs.Ytcilfoicoambhaa
