/- Each function of the program that has a body is entered when it is called. -/
import Derived.Test.YtcilfoicoambhaaFwMem
import Derived.Test.YtcilfoicoambhaaProg
namespace Go.Proofs.Ytcilfoicoambhaa
open Go Go.Hw
theorem fld36_0 (g off : Nat) (w : World) : (Instr.fieldAt 36 (.pointer (some ⟨g, off, none⟩)) 0).run Try.prog w = .ok (.pointer (some ⟨g, off + 0, none⟩)) w := by
  have h := fieldAt_at (P := Try.prog) (f := 0) Try.underlying36 rfl Try.sizeOf33 g off w
  exact h
theorem fld36_1 (g off : Nat) (w : World) : (Instr.fieldAt 36 (.pointer (some ⟨g, off, none⟩)) 1).run Try.prog w = .ok (.pointer (some ⟨g, off + 1, none⟩)) w := by
  have h := fieldAt_at (P := Try.prog) (f := 1) Try.underlying36 rfl Try.sizeOf30 g off w
  exact h
theorem fld36_2 (g off : Nat) (w : World) : (Instr.fieldAt 36 (.pointer (some ⟨g, off, none⟩)) 2).run Try.prog w = .ok (.pointer (some ⟨g, off + 2, none⟩)) w := by
  have h := fieldAt_at (P := Try.prog) (f := 2) Try.underlying36 rfl Try.sizeOf30 g off w
  exact h
theorem fld36_3 (g off : Nat) (w : World) : (Instr.fieldAt 36 (.pointer (some ⟨g, off, none⟩)) 3).run Try.prog w = .ok (.pointer (some ⟨g, off + 3, none⟩)) w := by
  have h := fieldAt_at (P := Try.prog) (f := 3) Try.underlying36 rfl Try.sizeOf30 g off w
  exact h
theorem fld36_4 (g off : Nat) (w : World) : (Instr.fieldAt 36 (.pointer (some ⟨g, off, none⟩)) 4).run Try.prog w = .ok (.pointer (some ⟨g, off + 4, none⟩)) w := by
  have h := fieldAt_at (P := Try.prog) (f := 4) Try.underlying36 rfl Try.sizeOf30 g off w
  exact h
theorem fld36_5 (g off : Nat) (w : World) : (Instr.fieldAt 36 (.pointer (some ⟨g, off, none⟩)) 5).run Try.prog w = .ok (.pointer (some ⟨g, off + 5, none⟩)) w := by
  have h := fieldAt_at (P := Try.prog) (f := 5) Try.underlying36 rfl Try.sizeOf4 g off w
  exact h
theorem fld36_6 (g off : Nat) (w : World) : (Instr.fieldAt 36 (.pointer (some ⟨g, off, none⟩)) 6).run Try.prog w = .ok (.pointer (some ⟨g, off + 6, none⟩)) w := by
  have h := fieldAt_at (P := Try.prog) (f := 6) Try.underlying36 rfl Try.sizeOf22 g off w
  exact h
theorem fld36_7 (g off : Nat) (w : World) : (Instr.fieldAt 36 (.pointer (some ⟨g, off, none⟩)) 7).run Try.prog w = .ok (.pointer (some ⟨g, off + 7, none⟩)) w := by
  have h := fieldAt_at (P := Try.prog) (f := 7) Try.underlying36 rfl Try.sizeOf34 g off w
  exact h
theorem fld44_0 (g off : Nat) (w : World) : (Instr.fieldAt 44 (.pointer (some ⟨g, off, none⟩)) 0).run Try.prog w = .ok (.pointer (some ⟨g, off + 0, none⟩)) w := by
  have h := fieldAt_at (P := Try.prog) (f := 0) Try.underlying44 rfl Try.sizeOf41 g off w
  exact h
theorem fld44_1 (g off : Nat) (w : World) : (Instr.fieldAt 44 (.pointer (some ⟨g, off, none⟩)) 1).run Try.prog w = .ok (.pointer (some ⟨g, off + 1, none⟩)) w := by
  have h := fieldAt_at (P := Try.prog) (f := 1) Try.underlying44 rfl Try.sizeOf30 g off w
  exact h
theorem fld44_2 (g off : Nat) (w : World) : (Instr.fieldAt 44 (.pointer (some ⟨g, off, none⟩)) 2).run Try.prog w = .ok (.pointer (some ⟨g, off + 2, none⟩)) w := by
  have h := fieldAt_at (P := Try.prog) (f := 2) Try.underlying44 rfl Try.sizeOf22 g off w
  exact h
theorem fld44_3 (g off : Nat) (w : World) : (Instr.fieldAt 44 (.pointer (some ⟨g, off, none⟩)) 3).run Try.prog w = .ok (.pointer (some ⟨g, off + 3, none⟩)) w := by
  have h := fieldAt_at (P := Try.prog) (f := 3) Try.underlying44 rfl Try.sizeOf42 g off w
  exact h
theorem fld67_0 (g off : Nat) (w : World) : (Instr.fieldAt 67 (.pointer (some ⟨g, off, none⟩)) 0).run Try.prog w = .ok (.pointer (some ⟨g, off + 0, none⟩)) w := by
  have h := fieldAt_at (P := Try.prog) (f := 0) Try.underlying67 rfl Try.sizeOf30 g off w
  exact h
theorem fld67_1 (g off : Nat) (w : World) : (Instr.fieldAt 67 (.pointer (some ⟨g, off, none⟩)) 1).run Try.prog w = .ok (.pointer (some ⟨g, off + 1, none⟩)) w := by
  have h := fieldAt_at (P := Try.prog) (f := 1) Try.underlying67 rfl Try.sizeOf30 g off w
  exact h
theorem fld69_0 (g off : Nat) (w : World) : (Instr.fieldAt 69 (.pointer (some ⟨g, off, none⟩)) 0).run Try.prog w = .ok (.pointer (some ⟨g, off + 0, none⟩)) w := by
  have h := fieldAt_at (P := Try.prog) (f := 0) Try.underlying69 rfl Try.sizeOf30 g off w
  exact h
theorem fld69_1 (g off : Nat) (w : World) : (Instr.fieldAt 69 (.pointer (some ⟨g, off, none⟩)) 1).run Try.prog w = .ok (.pointer (some ⟨g, off + 1, none⟩)) w := by
  have h := fieldAt_at (P := Try.prog) (f := 1) Try.underlying69 rfl Try.sizeOf30 g off w
  exact h
theorem fld69_2 (g off : Nat) (w : World) : (Instr.fieldAt 69 (.pointer (some ⟨g, off, none⟩)) 2).run Try.prog w = .ok (.pointer (some ⟨g, off + 2, none⟩)) w := by
  have h := fieldAt_at (P := Try.prog) (f := 2) Try.underlying69 rfl Try.sizeOf30 g off w
  exact h
theorem fld69_3 (g off : Nat) (w : World) : (Instr.fieldAt 69 (.pointer (some ⟨g, off, none⟩)) 3).run Try.prog w = .ok (.pointer (some ⟨g, off + 3, none⟩)) w := by
  have h := fieldAt_at (P := Try.prog) (f := 3) Try.underlying69 rfl Try.sizeOf30 g off w
  exact h
theorem fld74_0 (g off : Nat) (w : World) : (Instr.fieldAt 74 (.pointer (some ⟨g, off, none⟩)) 0).run Try.prog w = .ok (.pointer (some ⟨g, off + 0, none⟩)) w := by
  have h := fieldAt_at (P := Try.prog) (f := 0) Try.underlying74 rfl Try.sizeOf5 g off w
  exact h
theorem fld74_1 (g off : Nat) (w : World) : (Instr.fieldAt 74 (.pointer (some ⟨g, off, none⟩)) 1).run Try.prog w = .ok (.pointer (some ⟨g, off + 1, none⟩)) w := by
  have h := fieldAt_at (P := Try.prog) (f := 1) Try.underlying74 rfl Try.sizeOf30 g off w
  exact h
theorem fld74_2 (g off : Nat) (w : World) : (Instr.fieldAt 74 (.pointer (some ⟨g, off, none⟩)) 2).run Try.prog w = .ok (.pointer (some ⟨g, off + 2, none⟩)) w := by
  have h := fieldAt_at (P := Try.prog) (f := 2) Try.underlying74 rfl Try.sizeOf3 g off w
  exact h
theorem fld74_3 (g off : Nat) (w : World) : (Instr.fieldAt 74 (.pointer (some ⟨g, off, none⟩)) 3).run Try.prog w = .ok (.pointer (some ⟨g, off + 3, none⟩)) w := by
  have h := fieldAt_at (P := Try.prog) (f := 3) Try.underlying74 rfl Try.sizeOf4 g off w
  exact h
theorem fld74_4 (g off : Nat) (w : World) : (Instr.fieldAt 74 (.pointer (some ⟨g, off, none⟩)) 4).run Try.prog w = .ok (.pointer (some ⟨g, off + 4, none⟩)) w := by
  have h := fieldAt_at (P := Try.prog) (f := 4) Try.underlying74 rfl Try.sizeOf34 g off w
  exact h
theorem fld74_5 (g off : Nat) (w : World) : (Instr.fieldAt 74 (.pointer (some ⟨g, off, none⟩)) 5).run Try.prog w = .ok (.pointer (some ⟨g, off + 5, none⟩)) w := by
  have h := fieldAt_at (P := Try.prog) (f := 5) Try.underlying74 rfl Try.sizeOf30 g off w
  exact h
theorem fld74_6 (g off : Nat) (w : World) : (Instr.fieldAt 74 (.pointer (some ⟨g, off, none⟩)) 6).run Try.prog w = .ok (.pointer (some ⟨g, off + 6, none⟩)) w := by
  have h := fieldAt_at (P := Try.prog) (f := 6) Try.underlying74 rfl Try.sizeOf30 g off w
  exact h
theorem fld105_0 (g off : Nat) (w : World) : (Instr.fieldAt 105 (.pointer (some ⟨g, off, none⟩)) 0).run Try.prog w = .ok (.pointer (some ⟨g, off + 0, none⟩)) w := by
  have h := fieldAt_at (P := Try.prog) (f := 0) Try.underlying105 rfl Try.sizeOf3 g off w
  exact h
theorem fld105_1 (g off : Nat) (w : World) : (Instr.fieldAt 105 (.pointer (some ⟨g, off, none⟩)) 1).run Try.prog w = .ok (.pointer (some ⟨g, off + 1, none⟩)) w := by
  have h := fieldAt_at (P := Try.prog) (f := 1) Try.underlying105 rfl Try.sizeOf30 g off w
  exact h
theorem fld105_2 (g off : Nat) (w : World) : (Instr.fieldAt 105 (.pointer (some ⟨g, off, none⟩)) 2).run Try.prog w = .ok (.pointer (some ⟨g, off + 2, none⟩)) w := by
  have h := fieldAt_at (P := Try.prog) (f := 2) Try.underlying105 rfl Try.sizeOf30 g off w
  exact h
theorem fld105_3 (g off : Nat) (w : World) : (Instr.fieldAt 105 (.pointer (some ⟨g, off, none⟩)) 3).run Try.prog w = .ok (.pointer (some ⟨g, off + 3, none⟩)) w := by
  have h := fieldAt_at (P := Try.prog) (f := 3) Try.underlying105 rfl Try.sizeOf22 g off w
  exact h
theorem fld105_4 (g off : Nat) (w : World) : (Instr.fieldAt 105 (.pointer (some ⟨g, off, none⟩)) 4).run Try.prog w = .ok (.pointer (some ⟨g, off + 4, none⟩)) w := by
  have h := fieldAt_at (P := Try.prog) (f := 4) Try.underlying105 rfl Try.sizeOf3 g off w
  exact h
theorem fld105_5 (g off : Nat) (w : World) : (Instr.fieldAt 105 (.pointer (some ⟨g, off, none⟩)) 5).run Try.prog w = .ok (.pointer (some ⟨g, off + 5, none⟩)) w := by
  have h := fieldAt_at (P := Try.prog) (f := 5) Try.underlying105 rfl Try.sizeOf103 g off w
  exact h
theorem fld105_6 (g off : Nat) (w : World) : (Instr.fieldAt 105 (.pointer (some ⟨g, off, none⟩)) 6).run Try.prog w = .ok (.pointer (some ⟨g, off + 6, none⟩)) w := by
  have h := fieldAt_at (P := Try.prog) (f := 6) Try.underlying105 rfl Try.sizeOf103 g off w
  exact h
theorem fld105_7 (g off : Nat) (w : World) : (Instr.fieldAt 105 (.pointer (some ⟨g, off, none⟩)) 7).run Try.prog w = .ok (.pointer (some ⟨g, off + 7, none⟩)) w := by
  have h := fieldAt_at (P := Try.prog) (f := 7) Try.underlying105 rfl Try.sizeOf4 g off w
  exact h
theorem fld105_8 (g off : Nat) (w : World) : (Instr.fieldAt 105 (.pointer (some ⟨g, off, none⟩)) 8).run Try.prog w = .ok (.pointer (some ⟨g, off + 8, none⟩)) w := by
  have h := fieldAt_at (P := Try.prog) (f := 8) Try.underlying105 rfl Try.sizeOf3 g off w
  exact h
theorem fld105_9 (g off : Nat) (w : World) : (Instr.fieldAt 105 (.pointer (some ⟨g, off, none⟩)) 9).run Try.prog w = .ok (.pointer (some ⟨g, off + 9, none⟩)) w := by
  have h := fieldAt_at (P := Try.prog) (f := 9) Try.underlying105 rfl Try.sizeOf4 g off w
  exact h
theorem fld107_0 (g off : Nat) (w : World) : (Instr.fieldAt 107 (.pointer (some ⟨g, off, none⟩)) 0).run Try.prog w = .ok (.pointer (some ⟨g, off + 0, none⟩)) w := by
  have h := fieldAt_at (P := Try.prog) (f := 0) Try.underlying107 rfl Try.sizeOf3 g off w
  exact h
theorem fld107_1 (g off : Nat) (w : World) : (Instr.fieldAt 107 (.pointer (some ⟨g, off, none⟩)) 1).run Try.prog w = .ok (.pointer (some ⟨g, off + 1, none⟩)) w := by
  have h := fieldAt_at (P := Try.prog) (f := 1) Try.underlying107 rfl Try.sizeOf3 g off w
  exact h
theorem fld111_0 (g off : Nat) (w : World) : (Instr.fieldAt 111 (.pointer (some ⟨g, off, none⟩)) 0).run Try.prog w = .ok (.pointer (some ⟨g, off + 0, none⟩)) w := by
  have h := fieldAt_at (P := Try.prog) (f := 0) Try.underlying111 rfl Try.sizeOf3 g off w
  exact h
theorem fld111_1 (g off : Nat) (w : World) : (Instr.fieldAt 111 (.pointer (some ⟨g, off, none⟩)) 1).run Try.prog w = .ok (.pointer (some ⟨g, off + 1, none⟩)) w := by
  have h := fieldAt_at (P := Try.prog) (f := 1) Try.underlying111 rfl Try.sizeOf3 g off w
  exact h
theorem fld111_2 (g off : Nat) (w : World) : (Instr.fieldAt 111 (.pointer (some ⟨g, off, none⟩)) 2).run Try.prog w = .ok (.pointer (some ⟨g, off + 2, none⟩)) w := by
  have h := fieldAt_at (P := Try.prog) (f := 2) Try.underlying111 rfl Try.sizeOf3 g off w
  exact h
theorem fld120_0 (g off : Nat) (w : World) : (Instr.fieldAt 120 (.pointer (some ⟨g, off, none⟩)) 0).run Try.prog w = .ok (.pointer (some ⟨g, off + 0, none⟩)) w := by
  have h := fieldAt_at (P := Try.prog) (f := 0) Try.underlying120 rfl Try.sizeOf3 g off w
  exact h
theorem fld120_1 (g off : Nat) (w : World) : (Instr.fieldAt 120 (.pointer (some ⟨g, off, none⟩)) 1).run Try.prog w = .ok (.pointer (some ⟨g, off + 1, none⟩)) w := by
  have h := fieldAt_at (P := Try.prog) (f := 1) Try.underlying120 rfl Try.sizeOf3 g off w
  exact h
theorem fld120_2 (g off : Nat) (w : World) : (Instr.fieldAt 120 (.pointer (some ⟨g, off, none⟩)) 2).run Try.prog w = .ok (.pointer (some ⟨g, off + 2, none⟩)) w := by
  have h := fieldAt_at (P := Try.prog) (f := 2) Try.underlying120 rfl Try.sizeOf22 g off w
  exact h
theorem fld120_3 (g off : Nat) (w : World) : (Instr.fieldAt 120 (.pointer (some ⟨g, off, none⟩)) 3).run Try.prog w = .ok (.pointer (some ⟨g, off + 3, none⟩)) w := by
  have h := fieldAt_at (P := Try.prog) (f := 3) Try.underlying120 rfl Try.sizeOf27 g off w
  exact h
theorem fld127_0 (g off : Nat) (w : World) : (Instr.fieldAt 127 (.pointer (some ⟨g, off, none⟩)) 0).run Try.prog w = .ok (.pointer (some ⟨g, off + 0, none⟩)) w := by
  have h := fieldAt_at (P := Try.prog) (f := 0) Try.underlying127 rfl Try.sizeOf3 g off w
  exact h
theorem fld127_1 (g off : Nat) (w : World) : (Instr.fieldAt 127 (.pointer (some ⟨g, off, none⟩)) 1).run Try.prog w = .ok (.pointer (some ⟨g, off + 1, none⟩)) w := by
  have h := fieldAt_at (P := Try.prog) (f := 1) Try.underlying127 rfl Try.sizeOf125 g off w
  exact h
theorem fld127_2 (g off : Nat) (w : World) : (Instr.fieldAt 127 (.pointer (some ⟨g, off, none⟩)) 2).run Try.prog w = .ok (.pointer (some ⟨g, off + 2, none⟩)) w := by
  have h := fieldAt_at (P := Try.prog) (f := 2) Try.underlying127 rfl Try.sizeOf30 g off w
  exact h
theorem fld127_3 (g off : Nat) (w : World) : (Instr.fieldAt 127 (.pointer (some ⟨g, off, none⟩)) 3).run Try.prog w = .ok (.pointer (some ⟨g, off + 3, none⟩)) w := by
  have h := fieldAt_at (P := Try.prog) (f := 3) Try.underlying127 rfl Try.sizeOf30 g off w
  exact h
theorem fld127_4 (g off : Nat) (w : World) : (Instr.fieldAt 127 (.pointer (some ⟨g, off, none⟩)) 4).run Try.prog w = .ok (.pointer (some ⟨g, off + 4, none⟩)) w := by
  have h := fieldAt_at (P := Try.prog) (f := 4) Try.underlying127 rfl Try.sizeOf30 g off w
  exact h
theorem fld127_5 (g off : Nat) (w : World) : (Instr.fieldAt 127 (.pointer (some ⟨g, off, none⟩)) 5).run Try.prog w = .ok (.pointer (some ⟨g, off + 5, none⟩)) w := by
  have h := fieldAt_at (P := Try.prog) (f := 5) Try.underlying127 rfl Try.sizeOf2 g off w
  exact h
theorem fld127_6 (g off : Nat) (w : World) : (Instr.fieldAt 127 (.pointer (some ⟨g, off, none⟩)) 6).run Try.prog w = .ok (.pointer (some ⟨g, off + 6, none⟩)) w := by
  have h := fieldAt_at (P := Try.prog) (f := 6) Try.underlying127 rfl Try.sizeOf69 g off w
  exact h
theorem fld127_7 (g off : Nat) (w : World) : (Instr.fieldAt 127 (.pointer (some ⟨g, off, none⟩)) 7).run Try.prog w = .ok (.pointer (some ⟨g, off + 10, none⟩)) w := by
  have h := fieldAt_at (P := Try.prog) (f := 7) Try.underlying127 rfl Try.sizeOf3 g off w
  exact h
theorem fld127_8 (g off : Nat) (w : World) : (Instr.fieldAt 127 (.pointer (some ⟨g, off, none⟩)) 8).run Try.prog w = .ok (.pointer (some ⟨g, off + 11, none⟩)) w := by
  have h := fieldAt_at (P := Try.prog) (f := 8) Try.underlying127 rfl Try.sizeOf3 g off w
  exact h
theorem fld127_9 (g off : Nat) (w : World) : (Instr.fieldAt 127 (.pointer (some ⟨g, off, none⟩)) 9).run Try.prog w = .ok (.pointer (some ⟨g, off + 12, none⟩)) w := by
  have h := fieldAt_at (P := Try.prog) (f := 9) Try.underlying127 rfl Try.sizeOf3 g off w
  exact h
theorem fld127_10 (g off : Nat) (w : World) : (Instr.fieldAt 127 (.pointer (some ⟨g, off, none⟩)) 10).run Try.prog w = .ok (.pointer (some ⟨g, off + 13, none⟩)) w := by
  have h := fieldAt_at (P := Try.prog) (f := 10) Try.underlying127 rfl Try.sizeOf2 g off w
  exact h
theorem fld127_11 (g off : Nat) (w : World) : (Instr.fieldAt 127 (.pointer (some ⟨g, off, none⟩)) 11).run Try.prog w = .ok (.pointer (some ⟨g, off + 14, none⟩)) w := by
  have h := fieldAt_at (P := Try.prog) (f := 11) Try.underlying127 rfl Try.sizeOf3 g off w
  exact h
theorem fld129_0 (g off : Nat) (w : World) : (Instr.fieldAt 129 (.pointer (some ⟨g, off, none⟩)) 0).run Try.prog w = .ok (.pointer (some ⟨g, off + 0, none⟩)) w := by
  have h := fieldAt_at (P := Try.prog) (f := 0) Try.underlying129 rfl Try.sizeOf30 g off w
  exact h
theorem fld129_1 (g off : Nat) (w : World) : (Instr.fieldAt 129 (.pointer (some ⟨g, off, none⟩)) 1).run Try.prog w = .ok (.pointer (some ⟨g, off + 1, none⟩)) w := by
  have h := fieldAt_at (P := Try.prog) (f := 1) Try.underlying129 rfl Try.sizeOf3 g off w
  exact h
theorem fld129_2 (g off : Nat) (w : World) : (Instr.fieldAt 129 (.pointer (some ⟨g, off, none⟩)) 2).run Try.prog w = .ok (.pointer (some ⟨g, off + 2, none⟩)) w := by
  have h := fieldAt_at (P := Try.prog) (f := 2) Try.underlying129 rfl Try.sizeOf30 g off w
  exact h
theorem fld129_3 (g off : Nat) (w : World) : (Instr.fieldAt 129 (.pointer (some ⟨g, off, none⟩)) 3).run Try.prog w = .ok (.pointer (some ⟨g, off + 3, none⟩)) w := by
  have h := fieldAt_at (P := Try.prog) (f := 3) Try.underlying129 rfl Try.sizeOf4 g off w
  exact h
theorem fld144_0 (g off : Nat) (w : World) : (Instr.fieldAt 144 (.pointer (some ⟨g, off, none⟩)) 0).run Try.prog w = .ok (.pointer (some ⟨g, off + 0, none⟩)) w := by
  have h := fieldAt_at (P := Try.prog) (f := 0) Try.underlying144 rfl Try.sizeOf142 g off w
  exact h
theorem fld144_1 (g off : Nat) (w : World) : (Instr.fieldAt 144 (.pointer (some ⟨g, off, none⟩)) 1).run Try.prog w = .ok (.pointer (some ⟨g, off + 1, none⟩)) w := by
  have h := fieldAt_at (P := Try.prog) (f := 1) Try.underlying144 rfl Try.sizeOf30 g off w
  exact h
theorem fld144_2 (g off : Nat) (w : World) : (Instr.fieldAt 144 (.pointer (some ⟨g, off, none⟩)) 2).run Try.prog w = .ok (.pointer (some ⟨g, off + 2, none⟩)) w := by
  have h := fieldAt_at (P := Try.prog) (f := 2) Try.underlying144 rfl Try.sizeOf30 g off w
  exact h
theorem fld144_3 (g off : Nat) (w : World) : (Instr.fieldAt 144 (.pointer (some ⟨g, off, none⟩)) 3).run Try.prog w = .ok (.pointer (some ⟨g, off + 3, none⟩)) w := by
  have h := fieldAt_at (P := Try.prog) (f := 3) Try.underlying144 rfl Try.sizeOf30 g off w
  exact h
theorem fld144_4 (g off : Nat) (w : World) : (Instr.fieldAt 144 (.pointer (some ⟨g, off, none⟩)) 4).run Try.prog w = .ok (.pointer (some ⟨g, off + 4, none⟩)) w := by
  have h := fieldAt_at (P := Try.prog) (f := 4) Try.underlying144 rfl Try.sizeOf30 g off w
  exact h
theorem fld144_5 (g off : Nat) (w : World) : (Instr.fieldAt 144 (.pointer (some ⟨g, off, none⟩)) 5).run Try.prog w = .ok (.pointer (some ⟨g, off + 5, none⟩)) w := by
  have h := fieldAt_at (P := Try.prog) (f := 5) Try.underlying144 rfl Try.sizeOf4 g off w
  exact h
theorem fld172_0 (g off : Nat) (w : World) : (Instr.fieldAt 172 (.pointer (some ⟨g, off, none⟩)) 0).run Try.prog w = .ok (.pointer (some ⟨g, off + 0, none⟩)) w := by
  have h := fieldAt_at (P := Try.prog) (f := 0) Try.underlying172 rfl Try.sizeOf30 g off w
  exact h
theorem fld172_1 (g off : Nat) (w : World) : (Instr.fieldAt 172 (.pointer (some ⟨g, off, none⟩)) 1).run Try.prog w = .ok (.pointer (some ⟨g, off + 1, none⟩)) w := by
  have h := fieldAt_at (P := Try.prog) (f := 1) Try.underlying172 rfl Try.sizeOf4 g off w
  exact h
theorem fld172_2 (g off : Nat) (w : World) : (Instr.fieldAt 172 (.pointer (some ⟨g, off, none⟩)) 2).run Try.prog w = .ok (.pointer (some ⟨g, off + 2, none⟩)) w := by
  have h := fieldAt_at (P := Try.prog) (f := 2) Try.underlying172 rfl Try.sizeOf4 g off w
  exact h
theorem inf5 : (Try.prog.info? 5).map (fun i => (i.zero, i.size, i.bytes)) = some (some (.int .u8 0), 1, 1) := by kernel_rfl
theorem inf30 : (Try.prog.info? 30).map (fun i => (i.zero, i.size, i.bytes)) = some (some (.int .u64 0), 1, 8) := by kernel_rfl
theorem inf36 : (Try.prog.info? 36).map (fun i => (i.zero, i.size, i.bytes)) = some (some (.agg #[.int .u8 0, .int .u64 0, .int .u64 0, .int .u64 0, .int .u64 0, .bool false, .slice none 0 0, .slice none 0 0]), 8, 96) := by kernel_rfl
theorem inf44 : (Try.prog.info? 44).map (fun i => (i.zero, i.size, i.bytes)) = some (some (.agg #[.int .u64 0, .int .u64 0, .slice none 0 0, .slice none 0 0]), 4, 64) := by kernel_rfl
theorem inf50 : (Try.prog.info? 50).map (fun i => (i.zero, i.size, i.bytes)) = some (some (.agg #[.int .u64 0, .int .u64 0]), 2, 16) := by kernel_rfl
theorem inf67 : (Try.prog.info? 67).map (fun i => (i.zero, i.size, i.bytes)) = some (some (.agg #[.int .u64 0, .int .u64 0]), 2, 16) := by kernel_rfl
theorem inf74 : (Try.prog.info? 74).map (fun i => (i.zero, i.size, i.bytes)) = some (some (.agg #[.int .u8 0, .int .u64 0, .int .i64 0, .bool false, .slice none 0 0, .int .u64 0, .int .u64 0]), 7, 72) := by kernel_rfl
theorem inf107 : (Try.prog.info? 107).map (fun i => (i.zero, i.size, i.bytes)) = some (some (.agg #[.int .i64 0, .int .i64 0]), 2, 16) := by kernel_rfl
theorem inf129 : (Try.prog.info? 129).map (fun i => (i.zero, i.size, i.bytes)) = some (some (.agg #[.int .u64 0, .int .i64 0, .int .u64 0, .bool false]), 4, 32) := by kernel_rfl
theorem inf172 : (Try.prog.info? 172).map (fun i => (i.zero, i.size, i.bytes)) = some (some (.agg #[.int .u64 0, .bool false, .bool false]), 3, 16) := by kernel_rfl
theorem plc36 : ∀ fields : Array Field, Try.prog.underlying 36 = some (.struct fields) → ∀ w, (placesOf fields).run Try.prog w = .ok #[(0, 1), (1, 1), (2, 1), (3, 1), (4, 1), (5, 1), (6, 1), (7, 1)] w := by
  intro fields h
  rw [Try.underlying36] at h
  cases h
  intro w
  simp [placesOf, Try.sizeOf4, Try.sizeOf22, Try.sizeOf30, Try.sizeOf33, Try.sizeOf34, Result.andThen]
theorem plc44 : ∀ fields : Array Field, Try.prog.underlying 44 = some (.struct fields) → ∀ w, (placesOf fields).run Try.prog w = .ok #[(0, 1), (1, 1), (2, 1), (3, 1)] w := by
  intro fields h
  rw [Try.underlying44] at h
  cases h
  intro w
  simp [placesOf, Try.sizeOf22, Try.sizeOf30, Try.sizeOf41, Try.sizeOf42, Result.andThen]
theorem plc67 : ∀ fields : Array Field, Try.prog.underlying 67 = some (.struct fields) → ∀ w, (placesOf fields).run Try.prog w = .ok #[(0, 1), (1, 1)] w := by
  intro fields h
  rw [Try.underlying67] at h
  cases h
  intro w
  simp [placesOf, Try.sizeOf30, Result.andThen]
theorem plc69 : ∀ fields : Array Field, Try.prog.underlying 69 = some (.struct fields) → ∀ w, (placesOf fields).run Try.prog w = .ok #[(0, 1), (1, 1), (2, 1), (3, 1)] w := by
  intro fields h
  rw [Try.underlying69] at h
  cases h
  intro w
  simp [placesOf, Try.sizeOf30, Result.andThen]
theorem plc105 : ∀ fields : Array Field, Try.prog.underlying 105 = some (.struct fields) → ∀ w, (placesOf fields).run Try.prog w = .ok #[(0, 1), (1, 1), (2, 1), (3, 1), (4, 1), (5, 1), (6, 1), (7, 1), (8, 1), (9, 1)] w := by
  intro fields h
  rw [Try.underlying105] at h
  cases h
  intro w
  simp [placesOf, Try.sizeOf3, Try.sizeOf4, Try.sizeOf22, Try.sizeOf30, Try.sizeOf103, Result.andThen]
theorem plc107 : ∀ fields : Array Field, Try.prog.underlying 107 = some (.struct fields) → ∀ w, (placesOf fields).run Try.prog w = .ok #[(0, 1), (1, 1)] w := by
  intro fields h
  rw [Try.underlying107] at h
  cases h
  intro w
  simp [placesOf, Try.sizeOf3, Result.andThen]
theorem plc111 : ∀ fields : Array Field, Try.prog.underlying 111 = some (.struct fields) → ∀ w, (placesOf fields).run Try.prog w = .ok #[(0, 1), (1, 1), (2, 1)] w := by
  intro fields h
  rw [Try.underlying111] at h
  cases h
  intro w
  simp [placesOf, Try.sizeOf3, Result.andThen]
theorem plc120 : ∀ fields : Array Field, Try.prog.underlying 120 = some (.struct fields) → ∀ w, (placesOf fields).run Try.prog w = .ok #[(0, 1), (1, 1), (2, 1), (3, 1)] w := by
  intro fields h
  rw [Try.underlying120] at h
  cases h
  intro w
  simp [placesOf, Try.sizeOf3, Try.sizeOf22, Try.sizeOf27, Result.andThen]
theorem plc127 : ∀ fields : Array Field, Try.prog.underlying 127 = some (.struct fields) → ∀ w, (placesOf fields).run Try.prog w = .ok #[(0, 1), (1, 1), (2, 1), (3, 1), (4, 1), (5, 1), (6, 4), (10, 1), (11, 1), (12, 1), (13, 1), (14, 1)] w := by
  intro fields h
  rw [Try.underlying127] at h
  cases h
  intro w
  simp [placesOf, Try.sizeOf2, Try.sizeOf3, Try.sizeOf30, Try.sizeOf69, Try.sizeOf125, Result.andThen]
theorem plc129 : ∀ fields : Array Field, Try.prog.underlying 129 = some (.struct fields) → ∀ w, (placesOf fields).run Try.prog w = .ok #[(0, 1), (1, 1), (2, 1), (3, 1)] w := by
  intro fields h
  rw [Try.underlying129] at h
  cases h
  intro w
  simp [placesOf, Try.sizeOf3, Try.sizeOf4, Try.sizeOf30, Result.andThen]
theorem plc144 : ∀ fields : Array Field, Try.prog.underlying 144 = some (.struct fields) → ∀ w, (placesOf fields).run Try.prog w = .ok #[(0, 1), (1, 1), (2, 1), (3, 1), (4, 1), (5, 1)] w := by
  intro fields h
  rw [Try.underlying144] at h
  cases h
  intro w
  simp [placesOf, Try.sizeOf4, Try.sizeOf30, Try.sizeOf142, Result.andThen]
theorem plc172 : ∀ fields : Array Field, Try.prog.underlying 172 = some (.struct fields) → ∀ w, (placesOf fields).run Try.prog w = .ok #[(0, 1), (1, 1), (2, 1)] w := by
  intro fields h
  rw [Try.underlying172] at h
  cases h
  intro w
  simp [placesOf, Try.sizeOf4, Try.sizeOf30, Result.andThen]
theorem mixed : Try.prog.follows .mixedOrders = true := by kernel_rfl
theorem en3 : ∀ (args : Array Value) (w : World), (callFunc 3 args).run Try.prog w = .ok (.enter 3 args) w := Go.Proofs.enters_of Try.func3 (by kernel_rfl) rfl
theorem en4 : ∀ (args : Array Value) (w : World), (callFunc 4 args).run Try.prog w = .ok (.enter 4 args) w := Go.Proofs.enters_of Try.func4 (by kernel_rfl) rfl
theorem en5 : ∀ (args : Array Value) (w : World), (callFunc 5 args).run Try.prog w = .ok (.enter 5 args) w := Go.Proofs.enters_of Try.func5 (by kernel_rfl) rfl
theorem en6 : ∀ (args : Array Value) (w : World), (callFunc 6 args).run Try.prog w = .ok (.enter 6 args) w := Go.Proofs.enters_of Try.func6 (by kernel_rfl) rfl
theorem en7 : ∀ (args : Array Value) (w : World), (callFunc 7 args).run Try.prog w = .ok (.enter 7 args) w := Go.Proofs.enters_of Try.func7 (by kernel_rfl) rfl
theorem en8 : ∀ (args : Array Value) (w : World), (callFunc 8 args).run Try.prog w = .ok (.enter 8 args) w := Go.Proofs.enters_of Try.func8 (by kernel_rfl) rfl
theorem en9 : ∀ (args : Array Value) (w : World), (callFunc 9 args).run Try.prog w = .ok (.enter 9 args) w := Go.Proofs.enters_of Try.func9 (by kernel_rfl) rfl
theorem en10 : ∀ (args : Array Value) (w : World), (callFunc 10 args).run Try.prog w = .ok (.enter 10 args) w := Go.Proofs.enters_of Try.func10 (by kernel_rfl) rfl
theorem en11 : ∀ (args : Array Value) (w : World), (callFunc 11 args).run Try.prog w = .ok (.enter 11 args) w := Go.Proofs.enters_of Try.func11 (by kernel_rfl) rfl
theorem en12 : ∀ (args : Array Value) (w : World), (callFunc 12 args).run Try.prog w = .ok (.enter 12 args) w := Go.Proofs.enters_of Try.func12 (by kernel_rfl) rfl
theorem en13 : ∀ (args : Array Value) (w : World), (callFunc 13 args).run Try.prog w = .ok (.enter 13 args) w := Go.Proofs.enters_of Try.func13 (by kernel_rfl) rfl
theorem en14 : ∀ (args : Array Value) (w : World), (callFunc 14 args).run Try.prog w = .ok (.enter 14 args) w := Go.Proofs.enters_of Try.func14 (by kernel_rfl) rfl
theorem en15 : ∀ (args : Array Value) (w : World), (callFunc 15 args).run Try.prog w = .ok (.enter 15 args) w := Go.Proofs.enters_of Try.func15 (by kernel_rfl) rfl
theorem en16 : ∀ (args : Array Value) (w : World), (callFunc 16 args).run Try.prog w = .ok (.enter 16 args) w := Go.Proofs.enters_of Try.func16 (by kernel_rfl) rfl
theorem en17 : ∀ (args : Array Value) (w : World), (callFunc 17 args).run Try.prog w = .ok (.enter 17 args) w := Go.Proofs.enters_of Try.func17 (by kernel_rfl) rfl
theorem en18 : ∀ (args : Array Value) (w : World), (callFunc 18 args).run Try.prog w = .ok (.enter 18 args) w := Go.Proofs.enters_of Try.func18 (by kernel_rfl) rfl
theorem en19 : ∀ (args : Array Value) (w : World), (callFunc 19 args).run Try.prog w = .ok (.enter 19 args) w := Go.Proofs.enters_of Try.func19 (by kernel_rfl) rfl
theorem en20 : ∀ (args : Array Value) (w : World), (callFunc 20 args).run Try.prog w = .ok (.enter 20 args) w := Go.Proofs.enters_of Try.func20 (by kernel_rfl) rfl
theorem en21 : ∀ (args : Array Value) (w : World), (callFunc 21 args).run Try.prog w = .ok (.enter 21 args) w := Go.Proofs.enters_of Try.func21 (by kernel_rfl) rfl
theorem en22 : ∀ (args : Array Value) (w : World), (callFunc 22 args).run Try.prog w = .ok (.enter 22 args) w := Go.Proofs.enters_of Try.func22 (by kernel_rfl) rfl
theorem en23 : ∀ (args : Array Value) (w : World), (callFunc 23 args).run Try.prog w = .ok (.enter 23 args) w := Go.Proofs.enters_of Try.func23 (by kernel_rfl) rfl
theorem en24 : ∀ (args : Array Value) (w : World), (callFunc 24 args).run Try.prog w = .ok (.enter 24 args) w := Go.Proofs.enters_of Try.func24 (by kernel_rfl) rfl
theorem en25 : ∀ (args : Array Value) (w : World), (callFunc 25 args).run Try.prog w = .ok (.enter 25 args) w := Go.Proofs.enters_of Try.func25 (by kernel_rfl) rfl
theorem en26 : ∀ (args : Array Value) (w : World), (callFunc 26 args).run Try.prog w = .ok (.enter 26 args) w := Go.Proofs.enters_of Try.func26 (by kernel_rfl) rfl
theorem en27 : ∀ (args : Array Value) (w : World), (callFunc 27 args).run Try.prog w = .ok (.enter 27 args) w := Go.Proofs.enters_of Try.func27 (by kernel_rfl) rfl
theorem en28 : ∀ (args : Array Value) (w : World), (callFunc 28 args).run Try.prog w = .ok (.enter 28 args) w := Go.Proofs.enters_of Try.func28 (by kernel_rfl) rfl
theorem en29 : ∀ (args : Array Value) (w : World), (callFunc 29 args).run Try.prog w = .ok (.enter 29 args) w := Go.Proofs.enters_of Try.func29 (by kernel_rfl) rfl
theorem en30 : ∀ (args : Array Value) (w : World), (callFunc 30 args).run Try.prog w = .ok (.enter 30 args) w := Go.Proofs.enters_of Try.func30 (by kernel_rfl) rfl
theorem en31 : ∀ (args : Array Value) (w : World), (callFunc 31 args).run Try.prog w = .ok (.enter 31 args) w := Go.Proofs.enters_of Try.func31 (by kernel_rfl) rfl
theorem en32 : ∀ (args : Array Value) (w : World), (callFunc 32 args).run Try.prog w = .ok (.enter 32 args) w := Go.Proofs.enters_of Try.func32 (by kernel_rfl) rfl
theorem en33 : ∀ (args : Array Value) (w : World), (callFunc 33 args).run Try.prog w = .ok (.enter 33 args) w := Go.Proofs.enters_of Try.func33 (by kernel_rfl) rfl
theorem en34 : ∀ (args : Array Value) (w : World), (callFunc 34 args).run Try.prog w = .ok (.enter 34 args) w := Go.Proofs.enters_of Try.func34 (by kernel_rfl) rfl
theorem en35 : ∀ (args : Array Value) (w : World), (callFunc 35 args).run Try.prog w = .ok (.enter 35 args) w := Go.Proofs.enters_of Try.func35 (by kernel_rfl) rfl
theorem en36 : ∀ (args : Array Value) (w : World), (callFunc 36 args).run Try.prog w = .ok (.enter 36 args) w := Go.Proofs.enters_of Try.func36 (by kernel_rfl) rfl
theorem en37 : ∀ (args : Array Value) (w : World), (callFunc 37 args).run Try.prog w = .ok (.enter 37 args) w := Go.Proofs.enters_of Try.func37 (by kernel_rfl) rfl
theorem en38 : ∀ (args : Array Value) (w : World), (callFunc 38 args).run Try.prog w = .ok (.enter 38 args) w := Go.Proofs.enters_of Try.func38 (by kernel_rfl) rfl
theorem en39 : ∀ (args : Array Value) (w : World), (callFunc 39 args).run Try.prog w = .ok (.enter 39 args) w := Go.Proofs.enters_of Try.func39 (by kernel_rfl) rfl
theorem en40 : ∀ (args : Array Value) (w : World), (callFunc 40 args).run Try.prog w = .ok (.enter 40 args) w := Go.Proofs.enters_of Try.func40 (by kernel_rfl) rfl
theorem en41 : ∀ (args : Array Value) (w : World), (callFunc 41 args).run Try.prog w = .ok (.enter 41 args) w := Go.Proofs.enters_of Try.func41 (by kernel_rfl) rfl
theorem en42 : ∀ (args : Array Value) (w : World), (callFunc 42 args).run Try.prog w = .ok (.enter 42 args) w := Go.Proofs.enters_of Try.func42 (by kernel_rfl) rfl
theorem en43 : ∀ (args : Array Value) (w : World), (callFunc 43 args).run Try.prog w = .ok (.enter 43 args) w := Go.Proofs.enters_of Try.func43 (by kernel_rfl) rfl
theorem en44 : ∀ (args : Array Value) (w : World), (callFunc 44 args).run Try.prog w = .ok (.enter 44 args) w := Go.Proofs.enters_of Try.func44 (by kernel_rfl) rfl
theorem en45 : ∀ (args : Array Value) (w : World), (callFunc 45 args).run Try.prog w = .ok (.enter 45 args) w := Go.Proofs.enters_of Try.func45 (by kernel_rfl) rfl
theorem en46 : ∀ (args : Array Value) (w : World), (callFunc 46 args).run Try.prog w = .ok (.enter 46 args) w := Go.Proofs.enters_of Try.func46 (by kernel_rfl) rfl
theorem en47 : ∀ (args : Array Value) (w : World), (callFunc 47 args).run Try.prog w = .ok (.enter 47 args) w := Go.Proofs.enters_of Try.func47 (by kernel_rfl) rfl
theorem en48 : ∀ (args : Array Value) (w : World), (callFunc 48 args).run Try.prog w = .ok (.enter 48 args) w := Go.Proofs.enters_of Try.func48 (by kernel_rfl) rfl
theorem en49 : ∀ (args : Array Value) (w : World), (callFunc 49 args).run Try.prog w = .ok (.enter 49 args) w := Go.Proofs.enters_of Try.func49 (by kernel_rfl) rfl
theorem en50 : ∀ (args : Array Value) (w : World), (callFunc 50 args).run Try.prog w = .ok (.enter 50 args) w := Go.Proofs.enters_of Try.func50 (by kernel_rfl) rfl
theorem en51 : ∀ (args : Array Value) (w : World), (callFunc 51 args).run Try.prog w = .ok (.enter 51 args) w := Go.Proofs.enters_of Try.func51 (by kernel_rfl) rfl
theorem en52 : ∀ (args : Array Value) (w : World), (callFunc 52 args).run Try.prog w = .ok (.enter 52 args) w := Go.Proofs.enters_of Try.func52 (by kernel_rfl) rfl
theorem en53 : ∀ (args : Array Value) (w : World), (callFunc 53 args).run Try.prog w = .ok (.enter 53 args) w := Go.Proofs.enters_of Try.func53 (by kernel_rfl) rfl
theorem en54 : ∀ (args : Array Value) (w : World), (callFunc 54 args).run Try.prog w = .ok (.enter 54 args) w := Go.Proofs.enters_of Try.func54 (by kernel_rfl) rfl
theorem en55 : ∀ (args : Array Value) (w : World), (callFunc 55 args).run Try.prog w = .ok (.enter 55 args) w := Go.Proofs.enters_of Try.func55 (by kernel_rfl) rfl
theorem en56 : ∀ (args : Array Value) (w : World), (callFunc 56 args).run Try.prog w = .ok (.enter 56 args) w := Go.Proofs.enters_of Try.func56 (by kernel_rfl) rfl
theorem en57 : ∀ (args : Array Value) (w : World), (callFunc 57 args).run Try.prog w = .ok (.enter 57 args) w := Go.Proofs.enters_of Try.func57 (by kernel_rfl) rfl
theorem en58 : ∀ (args : Array Value) (w : World), (callFunc 58 args).run Try.prog w = .ok (.enter 58 args) w := Go.Proofs.enters_of Try.func58 (by kernel_rfl) rfl
theorem en59 : ∀ (args : Array Value) (w : World), (callFunc 59 args).run Try.prog w = .ok (.enter 59 args) w := Go.Proofs.enters_of Try.func59 (by kernel_rfl) rfl
theorem en60 : ∀ (args : Array Value) (w : World), (callFunc 60 args).run Try.prog w = .ok (.enter 60 args) w := Go.Proofs.enters_of Try.func60 (by kernel_rfl) rfl
theorem en61 : ∀ (args : Array Value) (w : World), (callFunc 61 args).run Try.prog w = .ok (.enter 61 args) w := Go.Proofs.enters_of Try.func61 (by kernel_rfl) rfl
theorem en62 : ∀ (args : Array Value) (w : World), (callFunc 62 args).run Try.prog w = .ok (.enter 62 args) w := Go.Proofs.enters_of Try.func62 (by kernel_rfl) rfl
theorem en63 : ∀ (args : Array Value) (w : World), (callFunc 63 args).run Try.prog w = .ok (.enter 63 args) w := Go.Proofs.enters_of Try.func63 (by kernel_rfl) rfl
theorem en64 : ∀ (args : Array Value) (w : World), (callFunc 64 args).run Try.prog w = .ok (.enter 64 args) w := Go.Proofs.enters_of Try.func64 (by kernel_rfl) rfl
theorem en65 : ∀ (args : Array Value) (w : World), (callFunc 65 args).run Try.prog w = .ok (.enter 65 args) w := Go.Proofs.enters_of Try.func65 (by kernel_rfl) rfl
theorem en66 : ∀ (args : Array Value) (w : World), (callFunc 66 args).run Try.prog w = .ok (.enter 66 args) w := Go.Proofs.enters_of Try.func66 (by kernel_rfl) rfl
theorem en67 : ∀ (args : Array Value) (w : World), (callFunc 67 args).run Try.prog w = .ok (.enter 67 args) w := Go.Proofs.enters_of Try.func67 (by kernel_rfl) rfl
theorem en68 : ∀ (args : Array Value) (w : World), (callFunc 68 args).run Try.prog w = .ok (.enter 68 args) w := Go.Proofs.enters_of Try.func68 (by kernel_rfl) rfl
theorem en69 : ∀ (args : Array Value) (w : World), (callFunc 69 args).run Try.prog w = .ok (.enter 69 args) w := Go.Proofs.enters_of Try.func69 (by kernel_rfl) rfl
theorem en70 : ∀ (args : Array Value) (w : World), (callFunc 70 args).run Try.prog w = .ok (.enter 70 args) w := Go.Proofs.enters_of Try.func70 (by kernel_rfl) rfl
theorem en71 : ∀ (args : Array Value) (w : World), (callFunc 71 args).run Try.prog w = .ok (.enter 71 args) w := Go.Proofs.enters_of Try.func71 (by kernel_rfl) rfl
theorem en72 : ∀ (args : Array Value) (w : World), (callFunc 72 args).run Try.prog w = .ok (.enter 72 args) w := Go.Proofs.enters_of Try.func72 (by kernel_rfl) rfl
theorem en73 : ∀ (args : Array Value) (w : World), (callFunc 73 args).run Try.prog w = .ok (.enter 73 args) w := Go.Proofs.enters_of Try.func73 (by kernel_rfl) rfl
theorem en74 : ∀ (args : Array Value) (w : World), (callFunc 74 args).run Try.prog w = .ok (.enter 74 args) w := Go.Proofs.enters_of Try.func74 (by kernel_rfl) rfl
theorem en75 : ∀ (args : Array Value) (w : World), (callFunc 75 args).run Try.prog w = .ok (.enter 75 args) w := Go.Proofs.enters_of Try.func75 (by kernel_rfl) rfl
theorem en76 : ∀ (args : Array Value) (w : World), (callFunc 76 args).run Try.prog w = .ok (.enter 76 args) w := Go.Proofs.enters_of Try.func76 (by kernel_rfl) rfl
theorem en77 : ∀ (args : Array Value) (w : World), (callFunc 77 args).run Try.prog w = .ok (.enter 77 args) w := Go.Proofs.enters_of Try.func77 (by kernel_rfl) rfl
theorem en78 : ∀ (args : Array Value) (w : World), (callFunc 78 args).run Try.prog w = .ok (.enter 78 args) w := Go.Proofs.enters_of Try.func78 (by kernel_rfl) rfl
theorem en79 : ∀ (args : Array Value) (w : World), (callFunc 79 args).run Try.prog w = .ok (.enter 79 args) w := Go.Proofs.enters_of Try.func79 (by kernel_rfl) rfl
theorem en80 : ∀ (args : Array Value) (w : World), (callFunc 80 args).run Try.prog w = .ok (.enter 80 args) w := Go.Proofs.enters_of Try.func80 (by kernel_rfl) rfl
theorem en81 : ∀ (args : Array Value) (w : World), (callFunc 81 args).run Try.prog w = .ok (.enter 81 args) w := Go.Proofs.enters_of Try.func81 (by kernel_rfl) rfl
theorem en82 : ∀ (args : Array Value) (w : World), (callFunc 82 args).run Try.prog w = .ok (.enter 82 args) w := Go.Proofs.enters_of Try.func82 (by kernel_rfl) rfl
theorem en83 : ∀ (args : Array Value) (w : World), (callFunc 83 args).run Try.prog w = .ok (.enter 83 args) w := Go.Proofs.enters_of Try.func83 (by kernel_rfl) rfl
theorem en84 : ∀ (args : Array Value) (w : World), (callFunc 84 args).run Try.prog w = .ok (.enter 84 args) w := Go.Proofs.enters_of Try.func84 (by kernel_rfl) rfl
theorem en85 : ∀ (args : Array Value) (w : World), (callFunc 85 args).run Try.prog w = .ok (.enter 85 args) w := Go.Proofs.enters_of Try.func85 (by kernel_rfl) rfl
theorem en86 : ∀ (args : Array Value) (w : World), (callFunc 86 args).run Try.prog w = .ok (.enter 86 args) w := Go.Proofs.enters_of Try.func86 (by kernel_rfl) rfl
theorem en87 : ∀ (args : Array Value) (w : World), (callFunc 87 args).run Try.prog w = .ok (.enter 87 args) w := Go.Proofs.enters_of Try.func87 (by kernel_rfl) rfl
theorem en88 : ∀ (args : Array Value) (w : World), (callFunc 88 args).run Try.prog w = .ok (.enter 88 args) w := Go.Proofs.enters_of Try.func88 (by kernel_rfl) rfl
theorem en89 : ∀ (args : Array Value) (w : World), (callFunc 89 args).run Try.prog w = .ok (.enter 89 args) w := Go.Proofs.enters_of Try.func89 (by kernel_rfl) rfl
theorem en90 : ∀ (args : Array Value) (w : World), (callFunc 90 args).run Try.prog w = .ok (.enter 90 args) w := Go.Proofs.enters_of Try.func90 (by kernel_rfl) rfl
theorem en91 : ∀ (args : Array Value) (w : World), (callFunc 91 args).run Try.prog w = .ok (.enter 91 args) w := Go.Proofs.enters_of Try.func91 (by kernel_rfl) rfl
theorem en92 : ∀ (args : Array Value) (w : World), (callFunc 92 args).run Try.prog w = .ok (.enter 92 args) w := Go.Proofs.enters_of Try.func92 (by kernel_rfl) rfl
theorem en93 : ∀ (args : Array Value) (w : World), (callFunc 93 args).run Try.prog w = .ok (.enter 93 args) w := Go.Proofs.enters_of Try.func93 (by kernel_rfl) rfl
theorem en94 : ∀ (args : Array Value) (w : World), (callFunc 94 args).run Try.prog w = .ok (.enter 94 args) w := Go.Proofs.enters_of Try.func94 (by kernel_rfl) rfl
theorem en95 : ∀ (args : Array Value) (w : World), (callFunc 95 args).run Try.prog w = .ok (.enter 95 args) w := Go.Proofs.enters_of Try.func95 (by kernel_rfl) rfl
theorem en96 : ∀ (args : Array Value) (w : World), (callFunc 96 args).run Try.prog w = .ok (.enter 96 args) w := Go.Proofs.enters_of Try.func96 (by kernel_rfl) rfl
theorem en97 : ∀ (args : Array Value) (w : World), (callFunc 97 args).run Try.prog w = .ok (.enter 97 args) w := Go.Proofs.enters_of Try.func97 (by kernel_rfl) rfl
theorem en98 : ∀ (args : Array Value) (w : World), (callFunc 98 args).run Try.prog w = .ok (.enter 98 args) w := Go.Proofs.enters_of Try.func98 (by kernel_rfl) rfl
theorem en99 : ∀ (args : Array Value) (w : World), (callFunc 99 args).run Try.prog w = .ok (.enter 99 args) w := Go.Proofs.enters_of Try.func99 (by kernel_rfl) rfl
theorem en100 : ∀ (args : Array Value) (w : World), (callFunc 100 args).run Try.prog w = .ok (.enter 100 args) w := Go.Proofs.enters_of Try.func100 (by kernel_rfl) rfl
theorem en101 : ∀ (args : Array Value) (w : World), (callFunc 101 args).run Try.prog w = .ok (.enter 101 args) w := Go.Proofs.enters_of Try.func101 (by kernel_rfl) rfl
theorem en102 : ∀ (args : Array Value) (w : World), (callFunc 102 args).run Try.prog w = .ok (.enter 102 args) w := Go.Proofs.enters_of Try.func102 (by kernel_rfl) rfl
theorem en103 : ∀ (args : Array Value) (w : World), (callFunc 103 args).run Try.prog w = .ok (.enter 103 args) w := Go.Proofs.enters_of Try.func103 (by kernel_rfl) rfl
theorem en104 : ∀ (args : Array Value) (w : World), (callFunc 104 args).run Try.prog w = .ok (.enter 104 args) w := Go.Proofs.enters_of Try.func104 (by kernel_rfl) rfl
theorem en105 : ∀ (args : Array Value) (w : World), (callFunc 105 args).run Try.prog w = .ok (.enter 105 args) w := Go.Proofs.enters_of Try.func105 (by kernel_rfl) rfl
theorem en106 : ∀ (args : Array Value) (w : World), (callFunc 106 args).run Try.prog w = .ok (.enter 106 args) w := Go.Proofs.enters_of Try.func106 (by kernel_rfl) rfl
theorem en107 : ∀ (args : Array Value) (w : World), (callFunc 107 args).run Try.prog w = .ok (.enter 107 args) w := Go.Proofs.enters_of Try.func107 (by kernel_rfl) rfl
theorem en108 : ∀ (args : Array Value) (w : World), (callFunc 108 args).run Try.prog w = .ok (.enter 108 args) w := Go.Proofs.enters_of Try.func108 (by kernel_rfl) rfl
theorem en109 : ∀ (args : Array Value) (w : World), (callFunc 109 args).run Try.prog w = .ok (.enter 109 args) w := Go.Proofs.enters_of Try.func109 (by kernel_rfl) rfl
theorem en110 : ∀ (args : Array Value) (w : World), (callFunc 110 args).run Try.prog w = .ok (.enter 110 args) w := Go.Proofs.enters_of Try.func110 (by kernel_rfl) rfl
theorem en111 : ∀ (args : Array Value) (w : World), (callFunc 111 args).run Try.prog w = .ok (.enter 111 args) w := Go.Proofs.enters_of Try.func111 (by kernel_rfl) rfl
theorem en112 : ∀ (args : Array Value) (w : World), (callFunc 112 args).run Try.prog w = .ok (.enter 112 args) w := Go.Proofs.enters_of Try.func112 (by kernel_rfl) rfl
theorem en113 : ∀ (args : Array Value) (w : World), (callFunc 113 args).run Try.prog w = .ok (.enter 113 args) w := Go.Proofs.enters_of Try.func113 (by kernel_rfl) rfl
theorem en114 : ∀ (args : Array Value) (w : World), (callFunc 114 args).run Try.prog w = .ok (.enter 114 args) w := Go.Proofs.enters_of Try.func114 (by kernel_rfl) rfl
theorem en115 : ∀ (args : Array Value) (w : World), (callFunc 115 args).run Try.prog w = .ok (.enter 115 args) w := Go.Proofs.enters_of Try.func115 (by kernel_rfl) rfl
theorem en116 : ∀ (args : Array Value) (w : World), (callFunc 116 args).run Try.prog w = .ok (.enter 116 args) w := Go.Proofs.enters_of Try.func116 (by kernel_rfl) rfl
end Go.Proofs.Ytcilfoicoambhaa
