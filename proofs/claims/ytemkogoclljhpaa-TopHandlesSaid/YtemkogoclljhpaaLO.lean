/- Strings. -/
import Derived.Test.YtemkogoclljhpaaLN
import Derived.Laws.BytesString
import Derived.Laws.Strings
namespace Go.Proofs.Ytemkogoclljhpaa.L
open Go
set_option linter.unusedVariables false
set_option linter.unusedSimpArgs false
set_option linter.unusedSectionVars false

section
variable {P : Program} {M : Mem} {Γ : Env} {o : Oper} {s s' : ByteArray} {t u e : TypeId} {x y : Operand}
theorem bytes_same (a b : ByteArray) : (a.toList == b.toList) = decide (a = b) := by
  rw [Bool.eq_iff_iff, beq_iff_eq, decide_eq_true_iff]
  constructor
  · intro h
    rw [ByteArray.toList_eq, ByteArray.toList_eq] at h
    obtain ⟨⟨x⟩⟩ := a
    obtain ⟨⟨y⟩⟩ := b
    simp only at h
    rw [h]
  · rintro rfl; rfl
theorem OpM.eqlStr (ho : o.op = .binOp .eql t x y u) (hx : Has M Γ x (is (.string s))) (hy : Has M Γ y (is (.string s'))) : OpM P M Γ o (is (.bool (decide (s = s')))) :=
  OpM.bin .eql ho hx hy fun w => by rw [eqGuard_at_string, ← bytes_same]; simp [binOp, Op.stringOp]
theorem OpM.neqStr (ho : o.op = .binOp .neq t x y u) (hx : Has M Γ x (is (.string s))) (hy : Has M Γ y (is (.string s'))) : OpM P M Γ o (is (.bool (!decide (s = s')))) :=
  OpM.bin .neq ho hx hy fun w => by rw [eqGuard_at_string, ← bytes_same]; simp [binOp, Op.stringOp]
theorem OpM.lssStr (ho : o.op = .binOp .lss t x y u) (hx : Has M Γ x (is (.string s))) (hy : Has M Γ y (is (.string s'))) : OpM P M Γ o (is (.bool (Op.bytesLess s.toList s'.toList))) :=
  OpM.bin .lss ho hx hy fun w => by rw [eqGuard_at_string]; simp [binOp, Op.stringOp]
theorem OpM.leqStr (ho : o.op = .binOp .leq t x y u) (hx : Has M Γ x (is (.string s))) (hy : Has M Γ y (is (.string s'))) : OpM P M Γ o (is (.bool (Op.bytesLess s.toList s'.toList || s.toList == s'.toList))) :=
  OpM.bin .leq ho hx hy fun w => by rw [eqGuard_at_string]; simp [binOp, Op.stringOp]
theorem OpM.gtrStr (ho : o.op = .binOp .gtr t x y u) (hx : Has M Γ x (is (.string s))) (hy : Has M Γ y (is (.string s'))) : OpM P M Γ o (is (.bool (!(Op.bytesLess s.toList s'.toList || s.toList == s'.toList)))) :=
  OpM.bin .gtr ho hx hy fun w => by rw [eqGuard_at_string]; simp [binOp, Op.stringOp]
theorem OpM.geqStr (ho : o.op = .binOp .geq t x y u) (hx : Has M Γ x (is (.string s))) (hy : Has M Γ y (is (.string s'))) : OpM P M Γ o (is (.bool (!Op.bytesLess s.toList s'.toList))) :=
  OpM.bin .geq ho hx hy fun w => by rw [eqGuard_at_string]; simp [binOp, Op.stringOp]
theorem OpM.addStr (ho : o.op = .binOp .add t x y u) (hx : Has M Γ x (is (.string s))) (hy : Has M Γ y (is (.string s'))) (hl : s.size + s'.size ≤ maxLen) : OpM P M Γ o (is (.string (s ++ s'))) :=
  OpM.bin .add ho hx hy fun w => by
    rw [eqGuard_at_string]
    have h2 : IntKind.i64.max = 9223372036854775807 := rfl
    have h3 : ¬ ((s.size : Int) + s'.size > 9223372036854775807) := by simp only [maxLen] at hl; omega
    simp [binOp, Op.stringOp, h2, h3]
/-- a text of bytes -/
def bytesS (ns : List Int) : ByteArray := ns.foldl (fun r n => r.push (UInt8.ofNat n.toNat)) ByteArray.empty
theorem OpM.bytesToStr {ns : List Int} (ho : o.op = .convert t u x) (hx : Has M Γ x (Lst (intR .u8) ns)) (ht : P.underlying t = some (.slice e)) (he : P.underlying e = some (.int .u8)) (hu : P.underlying u = some .string) : OpM P M Γ o (is (.string (bytesS ns))) :=
  OpM.isv fun a w κ hm hr => by
    obtain ⟨A, c, ev, hc, hA⟩ := (hx.box hm hr (by simp [ho, Op.operands])).now
    unfold execOp
    rw [ho]
    have hconv : ∀ v : Value, (∃ A m c, v = .slice A m c) → (convert t u v).run P w = (Conv.bytesToString v).run P w := by
      rintro v ⟨A, m, c, rfl⟩
      simp [convert, run_underlying ht, run_underlying hu, run_underlying he]
    simp only [ev, Sem.run_bind, hconv _ ⟨_, _, _, rfl⟩]
    rcases Nat.eq_zero_or_pos ns.length with h0 | h0
    · have : ns = [] := List.eq_nil_of_length_eq_zero h0
      subst this
      cases A with
      | none => simp [Conv.bytesToString, bytesS]
      | some ad =>
        have hl : (loadCells ad 0).run P w = .ok (([] : List Int).map (Value.int .u8)).toArray w := by simp [loadCells, loadCellsFrom]
        have := run_bytesToString (P := P) w ad 0 c [] hl
        simp only [List.length_nil] at *
        rw [this]
        rfl
    · obtain ⟨ad, rfl, hat⟩ := hA h0
      have hcells : CellsAt w ad (ns.map (Value.int .u8)) := by
        intro j q hj
        rw [List.getElem?_map] at hj
        cases hn : ns[j]? with
        | none => rw [hn] at hj; simp at hj
        | some n =>
          rw [hn] at hj
          simp only [Option.map_some, Option.some.injEq] at hj
          obtain ⟨cs, h1, h2⟩ := hat j n hn
          cases h1 with
          | cons h3 r =>
            have h4 := h2 0 _ rfl
            rw [Addr.add_zero'] at h4
            have e1 : (intR .u8).n = 1 := rfl
            rw [e1, Nat.mul_one] at h4
            rw [h4, ← hj]
            exact congrArg some h3
      have hl := run_loadCells_list (P := P) (w := w) ad (ns.map (Value.int .u8)) hcells
      rw [List.length_map] at hl
      rw [run_bytesToString (P := P) w ad ns.length c ns hl]
      rfl
end
end Go.Proofs.Ytemkogoclljhpaa.L
