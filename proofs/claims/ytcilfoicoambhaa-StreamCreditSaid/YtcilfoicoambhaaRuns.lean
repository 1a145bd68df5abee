/- Runs as pairs of whole numbers; a run among them, a run out of them. Plain lists; no program. -/
import Derived.Test.YtcilfoicoambhaaFwMem
set_option linter.unusedVariables false
namespace Go.Proofs.Ytcilfoicoambhaa
open Go

abbrev Run := Int × Int
def runC (l : List Run) : List Value := l.flatMap fun r => [.int .i64 r.1, .int .i64 r.2]
theorem runC_nil : runC [] = [] := rfl
theorem runC_cons (r : Run) (l : List Run) : runC (r :: l) = .int .i64 r.1 :: .int .i64 r.2 :: runC l := rfl
theorem runC_append (l m : List Run) : runC (l ++ m) = runC l ++ runC m := by simp [runC]
theorem runC_length (l : List Run) : (runC l).length = l.length * 2 := by
  induction l with
  | nil => rfl
  | cons r l ih => rw [runC_cons]; simp [ih]; omega
theorem runC_one (l : List Run) : ∀ u ∈ runC l, u.oneCell' = true := by
  induction l with
  | nil => simp [runC]
  | cons r l ih =>
    intro u hu
    rw [runC_cons] at hu
    rcases List.mem_cons.1 hu with rfl | hu
    · rfl
    · rcases List.mem_cons.1 hu with rfl | hu
      · rfl
      · exact ih u hu
theorem runC_get (l : List Run) : ∀ (i : Nat) (h : i < l.length), (runC l)[i * 2]? = some (.int .i64 (l[i]).1) ∧ (runC l)[i * 2 + 1]? = some (.int .i64 (l[i]).2) := by
  induction l with
  | nil => intro i h; simp at h
  | cons r l ih =>
    intro i h
    cases i with
    | zero => exact ⟨rfl, rfl⟩
    | succ i =>
      have := ih i (by simpa using h)
      rw [runC_cons]
      have e : (i + 1) * 2 = i * 2 + 2 := by omega
      rw [e]
      simpa using this
theorem runC_drop2 (l : List Run) (i : Nat) (h : i < l.length) : ((runC l).drop (i * 2)).take 2 = [.int .i64 (l[i]).1, .int .i64 (l[i]).2] := by
  obtain ⟨h1, h2⟩ := runC_get l i h
  have hl := runC_length l
  rw [List.drop_eq_getElem_cons (by omega), List.drop_eq_getElem_cons (by omega)]
  simp only [List.take_succ_cons, List.take_zero]
  rw [List.getElem?_eq_getElem (by omega)] at h1 h2
  injection h1 with h1
  injection h2 with h2
  rw [h1, h2]
theorem runC_take (l : List Run) : ∀ n, runC (l.take n) = (runC l).take (n * 2) := by
  induction l with
  | nil => intro n; simp [runC]
  | cons r l ih =>
    intro n
    cases n with
    | zero => simp [runC]
    | succ n =>
      have e : (n + 1) * 2 = n * 2 + 2 := by omega
      rw [e, List.take_succ_cons, runC_cons, runC_cons, ih n]
      rfl

def wo1 (f t : Int) (x : Run) : List Run := (if x.1 < min x.2 f then [(x.1, min x.2 f)] else []) ++ (if max x.1 t < x.2 then [(max x.1 t, x.2)] else [])
def withoutR (l : List Run) (f t : Int) : List Run := l.flatMap (wo1 f t)
def wi : List Run → Run → List Run
  | [], r => [r]
  | x :: l, r => if x.2 < r.1 then x :: wi l r else if r.2 < x.1 then r :: wi l x else wi l (min x.1 r.1, max x.2 r.2)
def withR (l : List Run) (r : Run) : List Run := if r.2 ≤ r.1 then l else wi l r

theorem wi_len : ∀ (l : List Run) (r : Run), (wi l r).length ≤ l.length + 1
  | [], r => by simp [wi]
  | x :: l, r => by
    simp only [wi]
    split
    · have := wi_len l r; simp; omega
    · split
      · have := wi_len l x; simp; omega
      · have := wi_len l (min x.1 r.1, max x.2 r.2); simp; omega
theorem drop_at {α : Type} (l : List α) (i : Nat) (h : i < l.length) : l.drop i = l[i] :: l.drop (i + 1) := List.drop_eq_getElem_cons h

def goneL (came : List Run) (r : Run) : List Run := came.foldl (fun l x => withoutR l x.1 x.2) [r]
def wiAll (lost l : List Run) : List Run := l.foldl withR lost
theorem take_snoc {α : Type} (l : List α) (i : Nat) (h : i < l.length) : l.take (i + 1) = l.take i ++ [l[i]] := by
  rw [List.take_succ_eq_append_getElem h]
theorem withoutR_snoc (l : List Run) (f t : Int) (i : Nat) (h : i < l.length) : withoutR (l.take (i + 1)) f t = withoutR (l.take i) f t ++ wo1 f t l[i] := by
  unfold withoutR
  rw [take_snoc l i h, List.flatMap_append, List.flatMap_singleton]
theorem withoutR_len (l : List Run) (f t : Int) : (withoutR l f t).length ≤ 2 * l.length := by
  unfold withoutR
  induction l with
  | nil => simp
  | cons x l ih =>
    have : (wo1 f t x).length ≤ 2 := by
      unfold wo1
      split <;> split <;> simp
    simp only [List.flatMap_cons, List.length_append, List.length_cons]
    omega
theorem goneL_snoc (came : List Run) (r : Run) (i : Nat) (h : i < came.length) : goneL (came.take (i + 1)) r = withoutR (goneL (came.take i) r) came[i].1 came[i].2 := by
  unfold goneL
  rw [take_snoc came i h, List.foldl_append]
  rfl
theorem wiAll_snoc (lost l : List Run) (i : Nat) (h : i < l.length) : wiAll lost (l.take (i + 1)) = withR (wiAll lost (l.take i)) l[i] := by
  unfold wiAll
  rw [take_snoc l i h, List.foldl_append]
  rfl
end Go.Proofs.Ytcilfoicoambhaa
