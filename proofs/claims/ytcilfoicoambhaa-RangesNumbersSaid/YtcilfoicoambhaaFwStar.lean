/- The hidden world: several resources as one. Own work; program-independent. -/
import Derived.Test.YtcilfoicoambhaaFwMem
set_option linter.unusedVariables false
namespace Go.Hw
open Go Go.RowKit

variable {P : Program} {w0 : World} {ro : Option Nat} {K : Post} {R : List Asn}

/-- All of l, each apart from the others. -/
def stars (l : List Asn) : Asn := ⟨fun k => ∃ A, A ∈ l ∧ A.fp k, fun w => (∀ A, A ∈ l → A.ok w) ∧ l.Pairwise Apart,
  fun w w' h ho => ⟨fun A hA => A.loc w w' (fun k hk => h k ⟨A, hA, hk⟩) (ho.1 A hA), ho.2⟩⟩

theorem Holds.unstar {w : World} {l : List Asn} (h : Holds w0 (stars l :: R) w) : Holds w0 (l ++ R) w := by
  have hs : (∀ A, A ∈ l → A.ok w) ∧ l.Pairwise Apart := h.ok _ (List.mem_cons_self ..)
  obtain ⟨hd, hd'⟩ := List.pairwise_cons.1 h.dis
  refine ⟨h.os, h.tape, h.output, h.size, h.old, ?_, ?_, ?_⟩
  · intro A hA
    rcases List.mem_append.1 hA with hA | hA
    · exact hs.1 A hA
    · exact h.ok A (List.mem_cons_of_mem _ hA)
  · intro A hA k hk
    rcases List.mem_append.1 hA with hA | hA
    · exact h.rng (stars l) (List.mem_cons_self ..) k ⟨A, hA, hk⟩
    · exact h.rng A (List.mem_cons_of_mem _ hA) k hk
  · exact List.pairwise_append.2 ⟨hs.2, hd', fun A hA B hB k hk hk' => hd B hB k ⟨A, hA, hk⟩ hk'⟩
theorem Holds.star {w : World} {l : List Asn} (h : Holds w0 (l ++ R) w) : Holds w0 (stars l :: R) w := by
  obtain ⟨h1, h2, h3⟩ := List.pairwise_append.1 h.dis
  refine ⟨h.os, h.tape, h.output, h.size, h.old, ?_, ?_, ?_⟩
  · intro A hA
    rcases List.mem_cons.1 hA with rfl | hA
    · exact ⟨fun A hA => h.ok A (List.mem_append_left _ hA), h1⟩
    · exact h.ok A (List.mem_append_right _ hA)
  · intro A hA k hk
    rcases List.mem_cons.1 hA with rfl | hA
    · obtain ⟨B, hB, hk⟩ := hk
      exact h.rng B (List.mem_append_left _ hB) k hk
    · exact h.rng A (List.mem_append_right _ hA) k hk
  · refine List.pairwise_cons.2 ⟨fun B hB k hk hk' => ?_, h2⟩
    obtain ⟨A, hA, hk⟩ := hk
    exact h3 A hA B hB k hk hk'
theorem Le.unstar {l : List Asn} : Le w0 (stars l :: R) (l ++ R) := fun _ h => h.unstar
theorem Le.star {l : List Asn} : Le w0 (l ++ R) (stars l :: R) := fun _ h => h.star
theorem CH_unstar {f : FuncId} {args : Array Value} {Φ : Value → List Asn → Prop} {l : List Asn} (h : CH P w0 f args (l ++ R) Φ) : CH P w0 f args (stars l :: R) Φ := CH_le Le.unstar h
theorem HC_unstar {c : Code} {a : Act} {l : List Asn} (h : HC P w0 ro c K a (l ++ R)) : HC P w0 ro c K a (stars l :: R) := HC_le Le.unstar h
theorem HC_star {c : Code} {a : Act} {l : List Asn} (h : HC P w0 ro c K a (stars l :: R)) : HC P w0 ro c K a (l ++ R) := HC_le Le.star h
theorem HL_unstar {ops : Array Oper} {o : List Oper} {a : Act} {l : List Asn} (h : HL P w0 ro ops K o a (l ++ R)) : HL P w0 ro ops K o a (stars l :: R) := HL_le Le.unstar h
/-- A contract that tells of the parts, told of the whole. -/
theorem CH_stars {f : FuncId} {args : Array Value} {Φ Φ' : Value → List Asn → Prop} {l : List Asn} (h : CH P w0 f args (l ++ R) Φ)
    (hm : ∀ v R', Φ v R' → ∃ R'', Le w0 R' R'' ∧ Φ' v R'') : CH P w0 f args (stars l :: R) Φ' :=
  fun w hw => (h w hw.unstar).mono fun _ _ ⟨v, R', e, hR, hΦ⟩ => by
    obtain ⟨R'', hs, h'⟩ := hm v R' hΦ
    exact ⟨v, R'', e, hs _ hR, h'⟩
/-- What the rest holds may be turned beside a resource. -/
theorem Le.skip {A : Asn} {l : List Asn} : Le w0 (A :: (l ++ R)) (A :: stars l :: R) := by
  refine Le.trans (R' := l ++ (A :: R)) (Le.perm ?_) (Le.trans Le.star (Le.perm (List.Perm.swap _ _ _)))
  exact List.perm_middle
theorem Le.skip2 {A B : Asn} {l : List Asn} : Le w0 (A :: B :: (l ++ R)) (A :: B :: stars l :: R) := by
  refine Le.trans (R' := l ++ (A :: B :: R)) (Le.perm ?_) (Le.trans Le.star (Le.perm ?_))
  · exact (List.perm_middle (l₁ := l) (a := A) (l₂ := B :: R)).trans ((List.perm_middle (l₁ := l) (a := B) (l₂ := R)).cons A)
  · exact ((List.Perm.swap _ _ _).cons A).trans (List.Perm.swap _ _ _)
theorem Le.starS {X l : List Asn} (h : X = l ++ R) : Le w0 X (stars l :: R) := by subst h; exact Le.star
theorem Le.skipS {A : Asn} {X l : List Asn} (h : X = l ++ R) : Le w0 (A :: X) (A :: stars l :: R) := by subst h; exact Le.skip
theorem Le.skip2S {A B : Asn} {X l : List Asn} (h : X = l ++ R) : Le w0 (A :: B :: X) (A :: B :: stars l :: R) := by subst h; exact Le.skip2
theorem CH_nil {f : FuncId} {args : Array Value} {Φ : Value → List Asn → Prop} (h : CH P w0 f args R Φ) : CH P w0 f args (R ++ []) Φ := by rw [List.append_nil]; exact h
end Go.Hw
