import Derived.Test.YtemkogoclljhpaaS6
namespace Go.Proofs.Ytemkogoclljhpaa
open Go Go.Proofs.Ytemkogoclljhpaa.L
set_option linter.unusedVariables false
set_option linter.unusedSimpArgs false

namespace T

end T


abbrev Pn := ByteArray × Int × Int
abbrev Rw := Pn × Ag
def lessS (a b : ByteArray) : Bool := Op.bytesLess a.toList b.toList
def cmpS (a b : ByteArray) : Int := if lessS a b then -1 else if lessS b a then 1 else 0
def cmpI (a b : Int) : Int := if a < b then -1 else if b < a then 1 else 0
def orI : List Int → Int
  | [] => 0
  | x :: xs => if x = 0 then orI xs else x
def cmpP (second : Bool) (a b : Pn) : Int := if second then orI [cmpI a.2.2 b.2.2, cmpS a.1 b.1, cmpI a.2.1 b.2.1] else orI [cmpS a.1 b.1, cmpI a.2.2 b.2.2, cmpI a.2.1 b.2.1]
theorem less_irr : ∀ x : List UInt8, Op.bytesLess x x = false
  | [] => rfl
  | a :: x => by simp [Op.bytesLess, less_irr x]
theorem less_trans : ∀ x y z : List UInt8, Op.bytesLess x y = true → Op.bytesLess y z = true → Op.bytesLess x z = true
  | _, [], _, h, _ => by simp [Op.bytesLess] at h
  | _, _ :: _, [], _, h => by simp [Op.bytesLess] at h
  | [], _ :: _, _ :: _, _, _ => rfl
  | a :: x, b :: y, c :: z, h, k => by
    simp only [Op.bytesLess, Bool.or_eq_true, Bool.and_eq_true, decide_eq_true_eq, beq_iff_eq] at h k ⊢
    rcases h with h | ⟨rfl, h⟩
    · rcases k with k | ⟨rfl, k⟩
      · exact .inl (UInt8.lt_trans h k)
      · exact .inl h
    · rcases k with k | ⟨rfl, k⟩
      · exact .inl k
      · exact .inr ⟨rfl, less_trans x y z h k⟩
theorem less_total : ∀ x y : List UInt8, Op.bytesLess x y = true ∨ x = y ∨ Op.bytesLess y x = true
  | [], [] => .inr (.inl rfl)
  | [], _ :: _ => .inl rfl
  | _ :: _, [] => .inr (.inr rfl)
  | a :: x, b :: y => by
    simp only [Op.bytesLess, Bool.or_eq_true, Bool.and_eq_true, decide_eq_true_eq, beq_iff_eq, List.cons.injEq]
    rcases UInt8.lt_or_lt_of_ne (a := a) (b := b) |> fun f => (Classical.em (a = b)).imp id f with h | h
    · subst h
      rcases less_total x y with h | h | h
      · exact .inl (.inr ⟨rfl, h⟩)
      · exact .inr (.inl ⟨rfl, h⟩)
      · exact .inr (.inr (.inr ⟨rfl, h⟩))
    · rcases h with h | h
      · exact .inl (.inl h)
      · exact .inr (.inr (.inl h))
theorem gtr_less (a b : ByteArray) : (!(Op.bytesLess a.toList b.toList || a.toList == b.toList)) = lessS b a := by
  unfold lessS
  rcases less_total a.toList b.toList with h | h | h
  · have : Op.bytesLess b.toList a.toList = false := by
      cases hb : Op.bytesLess b.toList a.toList with
      | false => rfl
      | true => have := less_trans _ _ _ h hb; rw [less_irr] at this; cases this
    simp [h, this]
  · simp [h, less_irr]
  · have h1 : Op.bytesLess a.toList b.toList = false := by
      cases hb : Op.bytesLess a.toList b.toList with
      | false => rfl
      | true => have := less_trans _ _ _ h hb; rw [less_irr] at this; cases this
    have h2 : ¬ a.toList = b.toList := fun e => by rw [e, less_irr] at h; cases h
    simp [h, h1, h2]
/-- an order, by -1, 0, 1 -/
structure Ord3 {α : Type} (c : α → α → Int) : Prop where
  vals : ∀ a b, c a b = -1 ∨ c a b = 0 ∨ c a b = 1
  anti : ∀ a b, c b a = -c a b
  le : ∀ a b d, c a b ≤ 0 → c b d ≤ 0 → c a d ≤ 0
theorem less_asym {a b : ByteArray} (h : lessS a b = true) : lessS b a = false := by
  cases hb : lessS b a with
  | false => rfl
  | true => have := less_trans _ _ _ h hb; rw [less_irr] at this; cases this
theorem ordS : Ord3 cmpS := by
  refine ⟨fun a b => by unfold cmpS; split; simp; split <;> simp, fun a b => ?_, fun a b d h k => ?_⟩
  · unfold cmpS
    cases h1 : lessS a b
    · cases h2 : lessS b a <;> simp
    · simp [less_asym h1]
  · unfold cmpS at *
    have e : ∀ x y : ByteArray, (if lessS x y = true then (-1 : Int) else if lessS y x = true then 1 else 0) ≤ 0 ↔ lessS y x = false := by
      intro x y
      cases h1 : lessS x y
      · cases h2 : lessS y x <;> simp
      · simp [less_asym h1]
    rw [e] at *
    cases hd : lessS d a with
    | false => rfl
    | true =>
      rcases less_total a.toList b.toList with h1 | h1 | h1
      · have := less_trans _ _ _ hd h1
        unfold lessS at k; rw [this] at k; cases k
      · unfold lessS at k hd; rw [h1] at hd; rw [hd] at k; cases k
      · unfold lessS at h; rw [h1] at h; cases h
theorem ordI : Ord3 cmpI := by
  refine ⟨fun a b => by unfold cmpI; split; simp; split <;> simp, fun a b => by unfold cmpI; (repeat' split) <;> omega, fun a b d h k => by unfold cmpI at *; (repeat' split at *) <;> omega⟩
/-- first one order, then another -/
theorem ord_then {α : Type} {c d : α → α → Int} (hc : Ord3 c) (hd : Ord3 d) : Ord3 (fun a b => if c a b = 0 then d a b else c a b) := by
  refine ⟨fun a b => ?_, fun a b => ?_, fun a b e h k => ?_⟩
  · have := hc.vals a b; have := hd.vals a b; split <;> omega
  · have := hc.anti a b; have := hd.anti a b; split <;> split <;> omega
  · have v1 := hc.vals a b; have v2 := hc.vals b e; have v3 := hc.vals a e
    have a1 := hc.anti a b; have a2 := hc.anti b e; have a3 := hc.anti a e
    have l1 := hc.le a b e; have l2 := hc.le b e a; have l3 := hc.le e a b; have l4 := hc.le e b a; have l5 := hc.le b a e; have l6 := hc.le a e b
    have m := hd.le a b e
    by_cases h1 : c a b = 0
    · by_cases h2 : c b e = 0
      · have h3 : c a e = 0 := by omega
        rw [if_pos h1] at h; rw [if_pos h2] at k; rw [if_pos h3]; exact m h k
      · rw [if_neg h2] at k
        rw [if_neg (by omega)]; omega
    · rw [if_neg h1] at h
      by_cases h2 : c b e = 0
      · rw [if_neg (by omega)]; omega
      · rw [if_neg h2] at k
        rw [if_neg (by omega)]; omega
theorem ord_at {α β : Type} {c : β → β → Int} (h : Ord3 c) (f : α → β) : Ord3 (fun a b => c (f a) (f b)) := ⟨fun a b => h.vals _ _, fun a b => h.anti _ _, fun a b d => h.le _ _ _⟩
theorem orI3 (x y z : Int) : orI [x, y, z] = if x = 0 then (if y = 0 then z else y) else x := by simp only [orI]; split <;> (try split) <;> (try split) <;> simp_all
theorem ordP (s : Bool) : Ord3 (cmpP s) := by
  have h1 : Ord3 (fun a b : Pn => cmpS a.1 b.1) := ord_at ordS (fun p : Pn => p.1)
  have h2 : Ord3 (fun a b : Pn => cmpI a.2.2 b.2.2) := ord_at ordI (fun p : Pn => p.2.2)
  have h3 : Ord3 (fun a b : Pn => cmpI a.2.1 b.2.1) := ord_at ordI (fun p : Pn => p.2.1)
  cases s with
  | true =>
    have e : cmpP true = fun a b => if cmpI a.2.2 b.2.2 = 0 then (if cmpS a.1 b.1 = 0 then cmpI a.2.1 b.2.1 else cmpS a.1 b.1) else cmpI a.2.2 b.2.2 := by
      funext a b; simp only [cmpP, if_true, orI3]
    rw [e]; exact ord_then h2 (ord_then h1 h3)
  | false =>
    have e : cmpP false = fun a b => if cmpS a.1 b.1 = 0 then (if cmpI a.2.2 b.2.2 = 0 then cmpI a.2.1 b.2.1 else cmpI a.2.2 b.2.2) else cmpS a.1 b.1 := by
      funext a b; simp [cmpP, orI3]
    rw [e]; exact ord_then h1 (ord_then h2 h3)

theorem or_step {xs : List Int} {k : Nat} {x : Int} (h : xs[k]? = some x) : orI (xs.drop k) = if x = 0 then orI (xs.drop (k + 1)) else x := by
  have hk := getL_len h
  rw [List.drop_eq_getElem_cons hk]
  rw [List.getElem?_eq_getElem hk] at h
  simp only [Option.some.injEq] at h
  rw [h]; rfl

/- cmp.isNaN[int64] -/
set_option maxRecDepth 100000 in
theorem F172 (n : Int) : FnP Try.prog 172 [is (.int .i64 n)] (is (.bool false)) := by
  refine FnP.mk' Try.func172 T.nm172 rfl (N := 6) rfl rfl fun B hB hκ => ?_
  refine Tr.seq ?_
  refine Tr.region ?_
  refine TrL.stepS 2 (.plain rfl (.assign rfl (.of rfl))) rfl rfl ?_
  refine TrL.nil ?_
  refine Fin.keepG (Γ' := [(0, _)]) (.same rfl .nil) ?_
  refine Fin.next ?_
  refine Tr.seq ?_
  refine Tr.region ?_
  refine TrL.stepS 3 (.plain rfl (.move rfl (.of rfl))) rfl rfl ?_
  refine TrL.stepS 4 (.plain rfl (.move rfl (.of rfl))) rfl rfl ?_
  refine TrL.stepS 5 (.plain rfl (.neq rfl (.of rfl) (.of rfl))) rfl rfl ?_
  refine TrL.stepS 2 (.plain rfl (.assign rfl (.of rfl))) rfl rfl ?_
  refine TrL.nil ?_
  refine Fin.keepG (Γ' := [(2, _)]) (.same rfl .nil) ?_
  refine Fin.next ?_
  refine Tr.ret ?_
  refine Fin.retI (rs := [_]) (Rs' := [is (.bool false)]) rfl (.cons (.tmp rfl) .nil) (.cons (L.iv ?_) .nil)
  · simp

/- cmp.isNaN[string] -/
set_option maxRecDepth 100000 in
theorem F173 (a : ByteArray) : FnP Try.prog 173 [is (.string a)] (is (.bool false)) := by
  refine FnP.mk' Try.func173 T.nm173 rfl (N := 6) rfl rfl fun B hB hκ => ?_
  refine Tr.seq ?_
  refine Tr.region ?_
  refine TrL.stepS 2 (.plain rfl (.assign rfl (.of rfl))) rfl rfl ?_
  refine TrL.nil ?_
  refine Fin.keepG (Γ' := [(0, _)]) (.same rfl .nil) ?_
  refine Fin.next ?_
  refine Tr.seq ?_
  refine Tr.region ?_
  refine TrL.stepS 3 (.plain rfl (.move rfl (.of rfl))) rfl rfl ?_
  refine TrL.stepS 4 (.plain rfl (.move rfl (.of rfl))) rfl rfl ?_
  refine TrL.stepS 5 (.plain rfl (.neqStr rfl (.of rfl) (.of rfl))) rfl rfl ?_
  refine TrL.stepS 2 (.plain rfl (.assign rfl (.of rfl))) rfl rfl ?_
  refine TrL.nil ?_
  refine Fin.keepG (Γ' := [(2, _)]) (.same rfl .nil) ?_
  refine Fin.next ?_
  refine Tr.ret ?_
  refine Fin.retI (rs := [_]) (Rs' := [is (.bool false)]) rfl (.cons (.tmp rfl) .nil) (.cons (L.iv ?_) .nil)
  · simp

/- cmp.Compare[int64] -/
set_option maxRecDepth 100000 in
theorem F145 (a b : Int) : FnP Try.prog 145 [is (.int .i64 a), is (.int .i64 b)] (is (.int .i64 (cmpI a b))) := by
  refine FnP.mk' Try.func145 T.nm145 rfl (N := 20) rfl rfl fun B hB hκ => ?_
  refine Tr.seq ?_
  refine Tr.region ?_
  refine TrL.stepS 4 (.plain rfl (.assign rfl (.of rfl))) rfl rfl ?_
  refine TrL.nil ?_
  refine Fin.keepG (Γ' := [(0, _), (1, _)]) (.same rfl (.same rfl .nil)) ?_
  refine Fin.next ?_
  refine Tr.seq ?_
  refine Tr.region ?_
  refine TrL.stepS 7 (.plain rfl (.move rfl (.of rfl))) rfl rfl ?_
  refine TrL.stepS 8 (.plain rfl (.call rfl (F172 ..) (.cons (.of rfl) .nil))) rfl rfl ?_
  refine TrL.stepS 5 (.plain rfl (.assign rfl (.of rfl))) rfl rfl ?_
  refine TrL.nil ?_
  refine Fin.keepG (Γ' := [(0, _), (1, _), (5, _)]) (.same rfl (.same rfl (.same rfl .nil))) ?_
  refine Fin.next ?_
  refine Tr.seq ?_
  refine Tr.region ?_
  refine TrL.stepS 9 (.plain rfl (.move rfl (.of rfl))) rfl rfl ?_
  refine TrL.stepS 10 (.plain rfl (.call rfl (F172 ..) (.cons (.of rfl) .nil))) rfl rfl ?_
  refine TrL.stepS 6 (.plain rfl (.assign rfl (.of rfl))) rfl rfl ?_
  refine TrL.nil ?_
  refine Fin.keepG (Γ' := [(0, _), (1, _), (5, _), (6, _)]) (.same rfl (.same rfl (.same rfl (.same rfl .nil)))) ?_
  refine Fin.next ?_
  refine Tr.seq ?_
  refine Tr.seq ?_
  refine Tr.region ?_
  refine TrL.stepS 11 (.plain rfl (.move rfl (.of rfl))) rfl rfl ?_
  refine TrL.nil ?_
  refine Fin.keepG (Γ' := [(0, _), (1, _), (6, _), (11, _)]) (.same rfl (.same rfl (.same rfl (.same rfl .nil)))) ?_
  refine Fin.next ?_
  refine Tr.cond rfl (fun hb0 => ?_) (fun hb0 => ?_)
  · try simp only [decide_eq_true_eq, decide_eq_false_iff_not, beq_iff_eq, beq_eq_false_iff_ne, bne_iff_ne, bne_eq_false_iff_eq, Bool.and_eq_true, Bool.and_eq_false_iff, Bool.or_eq_true, Bool.or_eq_false_iff, Bool.not_eq_true', Bool.not_eq_false', gt_iff_lt, ge_iff_le, Int.not_lt, Int.not_le, ne_eq, Int.natCast_nonneg, true_and, and_true, Decidable.not_not, not_true_eq_false, not_false_eq_true] at hb0
    cases hb0
  · try simp only [decide_eq_true_eq, decide_eq_false_iff_not, beq_iff_eq, beq_eq_false_iff_ne, bne_iff_ne, bne_eq_false_iff_eq, Bool.and_eq_true, Bool.and_eq_false_iff, Bool.or_eq_true, Bool.or_eq_false_iff, Bool.not_eq_true', Bool.not_eq_false', gt_iff_lt, ge_iff_le, Int.not_lt, Int.not_le, ne_eq, Int.natCast_nonneg, true_and, and_true, Decidable.not_not, not_true_eq_false, not_false_eq_true] at hb0
    refine Tr.skip ?_
    refine Fin.next ?_
    refine Tr.seq ?_
    refine Tr.seq ?_
    refine Tr.region ?_
    refine TrL.stepS 13 (.plain rfl (.move rfl (.of rfl))) rfl rfl ?_
    refine TrL.nil ?_
    refine Fin.keepG (Γ' := [(0, _), (1, _), (13, _)]) (.same rfl (.same rfl (.same rfl .nil))) ?_
    refine Fin.next ?_
    refine Tr.cond rfl (fun hb2 => ?_) (fun hb2 => ?_)
    · try simp only [decide_eq_true_eq, decide_eq_false_iff_not, beq_iff_eq, beq_eq_false_iff_ne, bne_iff_ne, bne_eq_false_iff_eq, Bool.and_eq_true, Bool.and_eq_false_iff, Bool.or_eq_true, Bool.or_eq_false_iff, Bool.not_eq_true', Bool.not_eq_false', gt_iff_lt, ge_iff_le, Int.not_lt, Int.not_le, ne_eq, Int.natCast_nonneg, true_and, and_true, Decidable.not_not, not_true_eq_false, not_false_eq_true] at hb2
      cases hb2
    · try simp only [decide_eq_true_eq, decide_eq_false_iff_not, beq_iff_eq, beq_eq_false_iff_ne, bne_iff_ne, bne_eq_false_iff_eq, Bool.and_eq_true, Bool.and_eq_false_iff, Bool.or_eq_true, Bool.or_eq_false_iff, Bool.not_eq_true', Bool.not_eq_false', gt_iff_lt, ge_iff_le, Int.not_lt, Int.not_le, ne_eq, Int.natCast_nonneg, true_and, and_true, Decidable.not_not, not_true_eq_false, not_false_eq_true] at hb2
      refine Tr.skip ?_
      refine Fin.next ?_
      refine Tr.seq ?_
      refine Tr.seq ?_
      refine Tr.region ?_
      refine TrL.stepS 14 (.plain rfl (.move rfl (.of rfl))) rfl rfl ?_
      refine TrL.stepS 15 (.plain rfl (.move rfl (.of rfl))) rfl rfl ?_
      refine TrL.stepS 16 (.plain rfl (.lss rfl (.of rfl) (.of rfl))) rfl rfl ?_
      refine TrL.nil ?_
      refine Fin.keepG (Γ' := [(0, _), (1, _), (16, _)]) (.same rfl (.same rfl (.same rfl .nil))) ?_
      refine Fin.next ?_
      refine Tr.cond rfl (fun hb3 => ?_) (fun hb3 => ?_)
      · try simp only [decide_eq_true_eq, decide_eq_false_iff_not, beq_iff_eq, beq_eq_false_iff_ne, bne_iff_ne, bne_eq_false_iff_eq, Bool.and_eq_true, Bool.and_eq_false_iff, Bool.or_eq_true, Bool.or_eq_false_iff, Bool.not_eq_true', Bool.not_eq_false', gt_iff_lt, ge_iff_le, Int.not_lt, Int.not_le, ne_eq, Int.natCast_nonneg, true_and, and_true, Decidable.not_not, not_true_eq_false, not_false_eq_true] at hb3
        refine Tr.seq ?_
        refine Tr.region ?_
        refine TrL.stepS 4 (.plain rfl (.assign rfl (.of rfl))) rfl rfl ?_
        refine TrL.nil ?_
        refine Fin.keepG (Γ' := [(4, _)]) (.same rfl .nil) ?_
        refine Fin.next ?_
        refine Tr.ret ?_
        refine Fin.thenRet ?_
        refine Fin.retI (rs := [_]) (Rs' := [is (.int .i64 (cmpI a b))]) rfl (.cons (.tmp rfl) .nil) (.cons (L.iv ?_) .nil)
        · simp [cmpI, hb3]
      · try simp only [decide_eq_true_eq, decide_eq_false_iff_not, beq_iff_eq, beq_eq_false_iff_ne, bne_iff_ne, bne_eq_false_iff_eq, Bool.and_eq_true, Bool.and_eq_false_iff, Bool.or_eq_true, Bool.or_eq_false_iff, Bool.not_eq_true', Bool.not_eq_false', gt_iff_lt, ge_iff_le, Int.not_lt, Int.not_le, ne_eq, Int.natCast_nonneg, true_and, and_true, Decidable.not_not, not_true_eq_false, not_false_eq_true] at hb3
        refine Tr.skip ?_
        refine Fin.next ?_
        refine Tr.seq ?_
        refine Tr.seq ?_
        refine Tr.region ?_
        refine TrL.stepS 17 (.plain rfl (.move rfl (.of rfl))) rfl rfl ?_
        refine TrL.stepS 18 (.plain rfl (.move rfl (.of rfl))) rfl rfl ?_
        refine TrL.stepS 19 (.plain rfl (.gtr rfl (.of rfl) (.of rfl))) rfl rfl ?_
        refine TrL.nil ?_
        refine Fin.keepG (Γ' := [(19, _)]) (.same rfl .nil) ?_
        refine Fin.next ?_
        refine Tr.cond rfl (fun hb4 => ?_) (fun hb4 => ?_)
        · try simp only [decide_eq_true_eq, decide_eq_false_iff_not, beq_iff_eq, beq_eq_false_iff_ne, bne_iff_ne, bne_eq_false_iff_eq, Bool.and_eq_true, Bool.and_eq_false_iff, Bool.or_eq_true, Bool.or_eq_false_iff, Bool.not_eq_true', Bool.not_eq_false', gt_iff_lt, ge_iff_le, Int.not_lt, Int.not_le, ne_eq, Int.natCast_nonneg, true_and, and_true, Decidable.not_not, not_true_eq_false, not_false_eq_true] at hb4
          refine Tr.seq ?_
          refine Tr.region ?_
          refine TrL.stepS 4 (.plain rfl (.assign rfl (.of rfl))) rfl rfl ?_
          refine TrL.nil ?_
          refine Fin.keepG (Γ' := [(4, _)]) (.same rfl .nil) ?_
          refine Fin.next ?_
          refine Tr.ret ?_
          refine Fin.thenRet ?_
          refine Fin.retI (rs := [_]) (Rs' := [is (.int .i64 (cmpI a b))]) rfl (.cons (.tmp rfl) .nil) (.cons (L.iv ?_) .nil)
          · simp only [cmpI]; rw [if_neg (by omega), if_pos hb4]
        · try simp only [decide_eq_true_eq, decide_eq_false_iff_not, beq_iff_eq, beq_eq_false_iff_ne, bne_iff_ne, bne_eq_false_iff_eq, Bool.and_eq_true, Bool.and_eq_false_iff, Bool.or_eq_true, Bool.or_eq_false_iff, Bool.not_eq_true', Bool.not_eq_false', gt_iff_lt, ge_iff_le, Int.not_lt, Int.not_le, ne_eq, Int.natCast_nonneg, true_and, and_true, Decidable.not_not, not_true_eq_false, not_false_eq_true] at hb4
          refine Tr.skip ?_
          refine Fin.next ?_
          refine Tr.seq ?_
          refine Tr.region ?_
          refine TrL.stepS 4 (.plain rfl (.assign rfl (.of rfl))) rfl rfl ?_
          refine TrL.nil ?_
          refine Fin.keepG (Γ' := [(4, _)]) (.same rfl .nil) ?_
          refine Fin.next ?_
          refine Tr.ret ?_
          refine Fin.retI (rs := [_]) (Rs' := [is (.int .i64 (cmpI a b))]) rfl (.cons (.tmp rfl) .nil) (.cons (L.iv ?_) .nil)
          · simp only [cmpI]; rw [if_neg (by omega), if_neg (by omega)]

/- cmp.Compare[string] -/
set_option maxRecDepth 100000 in
theorem F146 (a b : ByteArray) : FnP Try.prog 146 [is (.string a), is (.string b)] (is (.int .i64 (cmpS a b))) := by
  refine FnP.mk' Try.func146 T.nm146 rfl (N := 20) rfl rfl fun B hB hκ => ?_
  refine Tr.seq ?_
  refine Tr.region ?_
  refine TrL.stepS 4 (.plain rfl (.assign rfl (.of rfl))) rfl rfl ?_
  refine TrL.nil ?_
  refine Fin.keepG (Γ' := [(0, _), (1, _)]) (.same rfl (.same rfl .nil)) ?_
  refine Fin.next ?_
  refine Tr.seq ?_
  refine Tr.region ?_
  refine TrL.stepS 7 (.plain rfl (.move rfl (.of rfl))) rfl rfl ?_
  refine TrL.stepS 8 (.plain rfl (.call rfl (F173 ..) (.cons (.of rfl) .nil))) rfl rfl ?_
  refine TrL.stepS 5 (.plain rfl (.assign rfl (.of rfl))) rfl rfl ?_
  refine TrL.nil ?_
  refine Fin.keepG (Γ' := [(0, _), (1, _), (5, _)]) (.same rfl (.same rfl (.same rfl .nil))) ?_
  refine Fin.next ?_
  refine Tr.seq ?_
  refine Tr.region ?_
  refine TrL.stepS 9 (.plain rfl (.move rfl (.of rfl))) rfl rfl ?_
  refine TrL.stepS 10 (.plain rfl (.call rfl (F173 ..) (.cons (.of rfl) .nil))) rfl rfl ?_
  refine TrL.stepS 6 (.plain rfl (.assign rfl (.of rfl))) rfl rfl ?_
  refine TrL.nil ?_
  refine Fin.keepG (Γ' := [(0, _), (1, _), (5, _), (6, _)]) (.same rfl (.same rfl (.same rfl (.same rfl .nil)))) ?_
  refine Fin.next ?_
  refine Tr.seq ?_
  refine Tr.seq ?_
  refine Tr.region ?_
  refine TrL.stepS 11 (.plain rfl (.move rfl (.of rfl))) rfl rfl ?_
  refine TrL.nil ?_
  refine Fin.keepG (Γ' := [(0, _), (1, _), (6, _), (11, _)]) (.same rfl (.same rfl (.same rfl (.same rfl .nil)))) ?_
  refine Fin.next ?_
  refine Tr.cond rfl (fun hb0 => ?_) (fun hb0 => ?_)
  · try simp only [true_and] at hb0
    cases hb0
  · try simp only [true_and] at hb0
    refine Tr.skip ?_
    refine Fin.next ?_
    refine Tr.seq ?_
    refine Tr.seq ?_
    refine Tr.region ?_
    refine TrL.stepS 13 (.plain rfl (.move rfl (.of rfl))) rfl rfl ?_
    refine TrL.nil ?_
    refine Fin.keepG (Γ' := [(0, _), (1, _), (13, _)]) (.same rfl (.same rfl (.same rfl .nil))) ?_
    refine Fin.next ?_
    refine Tr.cond rfl (fun hb2 => ?_) (fun hb2 => ?_)
    · try simp only [true_and] at hb2
      cases hb2
    · try simp only [true_and] at hb2
      refine Tr.skip ?_
      refine Fin.next ?_
      refine Tr.seq ?_
      refine Tr.seq ?_
      refine Tr.region ?_
      refine TrL.stepS 14 (.plain rfl (.move rfl (.of rfl))) rfl rfl ?_
      refine TrL.stepS 15 (.plain rfl (.move rfl (.of rfl))) rfl rfl ?_
      refine TrL.stepS 16 (.plain rfl (.lssStr rfl (.of rfl) (.of rfl))) rfl rfl ?_
      refine TrL.nil ?_
      refine Fin.keepG (Γ' := [(0, _), (1, _), (16, _)]) (.same rfl (.same rfl (.same rfl .nil))) ?_
      refine Fin.next ?_
      refine Tr.cond rfl (fun hb3 => ?_) (fun hb3 => ?_)
      · have hr3 := hb3; try simp only [true_and] at hb3
        refine Tr.seq ?_
        refine Tr.region ?_
        refine TrL.stepS 4 (.plain rfl (.assign rfl (.of rfl))) rfl rfl ?_
        refine TrL.nil ?_
        refine Fin.keepG (Γ' := [(4, _)]) (.same rfl .nil) ?_
        refine Fin.next ?_
        refine Tr.ret ?_
        refine Fin.thenRet ?_
        refine Fin.retI (rs := [_]) (Rs' := [is (.int .i64 (cmpS a b))]) rfl (.cons (.tmp rfl) .nil) (.cons (L.iv ?_) .nil)
        · have h1 : lessS a b = true := hr3
          simp [cmpS, h1]
      · have hr3 := hb3; try simp only [true_and] at hb3
        refine Tr.skip ?_
        refine Fin.next ?_
        refine Tr.seq ?_
        refine Tr.seq ?_
        refine Tr.region ?_
        refine TrL.stepS 17 (.plain rfl (.move rfl (.of rfl))) rfl rfl ?_
        refine TrL.stepS 18 (.plain rfl (.move rfl (.of rfl))) rfl rfl ?_
        refine TrL.stepS 19 (.plain rfl (.gtrStr rfl (.of rfl) (.of rfl))) rfl rfl ?_
        refine TrL.nil ?_
        refine Fin.keepG (Γ' := [(19, _)]) (.same rfl .nil) ?_
        refine Fin.next ?_
        refine Tr.cond rfl (fun hb4 => ?_) (fun hb4 => ?_)
        · have hr4 := hb4; try simp only [true_and] at hb4
          refine Tr.seq ?_
          refine Tr.region ?_
          refine TrL.stepS 4 (.plain rfl (.assign rfl (.of rfl))) rfl rfl ?_
          refine TrL.nil ?_
          refine Fin.keepG (Γ' := [(4, _)]) (.same rfl .nil) ?_
          refine Fin.next ?_
          refine Tr.ret ?_
          refine Fin.thenRet ?_
          refine Fin.retI (rs := [_]) (Rs' := [is (.int .i64 (cmpS a b))]) rfl (.cons (.tmp rfl) .nil) (.cons (L.iv ?_) .nil)
          · have h1 : lessS a b = false := hr3
            rw [gtr_less] at hr4
            simp [cmpS, h1, hr4]
        · have hr4 := hb4; try simp only [true_and] at hb4
          refine Tr.skip ?_
          refine Fin.next ?_
          refine Tr.seq ?_
          refine Tr.region ?_
          refine TrL.stepS 4 (.plain rfl (.assign rfl (.of rfl))) rfl rfl ?_
          refine TrL.nil ?_
          refine Fin.keepG (Γ' := [(4, _)]) (.same rfl .nil) ?_
          refine Fin.next ?_
          refine Tr.ret ?_
          refine Fin.retI (rs := [_]) (Rs' := [is (.int .i64 (cmpS a b))]) rfl (.cons (.tmp rfl) .nil) (.cons (L.iv ?_) .nil)
          · have h1 : lessS a b = false := hr3
            rw [gtr_less] at hr4
            simp [cmpS, h1, hr4]

/- tidepool/tidepooltop.ahead33$1 -/
set_option maxRecDepth 100000 in
theorem F142 (a b : ByteArray) : FnP Try.prog 142 [is (.string a), is (.string b)] (is (.int .i64 (cmpS a b))) := by
  refine FnP.mk' Try.func142 T.nm142 rfl (N := 11) rfl rfl fun B hB hκ => ?_
  refine Tr.seq ?_
  refine Tr.region ?_
  refine TrL.stepS 4 (.plain rfl (.assign rfl (.of rfl))) rfl rfl ?_
  refine TrL.nil ?_
  refine Fin.keepG (Γ' := [(0, _), (1, _)]) (.same rfl (.same rfl .nil)) ?_
  refine Fin.next ?_
  refine Tr.seq ?_
  refine Tr.seq ?_
  refine Tr.region ?_
  refine TrL.stepS 5 (.plain rfl (.move rfl (.of rfl))) rfl rfl ?_
  refine TrL.stepS 6 (.plain rfl (.move rfl (.of rfl))) rfl rfl ?_
  refine TrL.stepS 7 (.plain rfl (.lssStr rfl (.of rfl) (.of rfl))) rfl rfl ?_
  refine TrL.nil ?_
  refine Fin.keepG (Γ' := [(0, _), (1, _), (7, _)]) (.same rfl (.same rfl (.same rfl .nil))) ?_
  refine Fin.next ?_
  refine Tr.cond rfl (fun hb0 => ?_) (fun hb0 => ?_)
  · have hr0 := hb0; try simp only [true_and] at hb0
    refine Tr.seq ?_
    refine Tr.region ?_
    refine TrL.stepS 4 (.plain rfl (.assign rfl (.of rfl))) rfl rfl ?_
    refine TrL.nil ?_
    refine Fin.keepG (Γ' := [(4, _)]) (.same rfl .nil) ?_
    refine Fin.next ?_
    refine Tr.ret ?_
    refine Fin.thenRet ?_
    refine Fin.retI (rs := [_]) (Rs' := [is (.int .i64 (cmpS a b))]) rfl (.cons (.tmp rfl) .nil) (.cons (L.iv ?_) .nil)
    · have h1 : lessS a b = true := hr0
      simp [cmpS, h1]
  · have hr0 := hb0; try simp only [true_and] at hb0
    refine Tr.skip ?_
    refine Fin.next ?_
    refine Tr.seq ?_
    refine Tr.seq ?_
    refine Tr.region ?_
    refine TrL.stepS 8 (.plain rfl (.move rfl (.of rfl))) rfl rfl ?_
    refine TrL.stepS 9 (.plain rfl (.move rfl (.of rfl))) rfl rfl ?_
    refine TrL.stepS 10 (.plain rfl (.gtrStr rfl (.of rfl) (.of rfl))) rfl rfl ?_
    refine TrL.nil ?_
    refine Fin.keepG (Γ' := [(10, _)]) (.same rfl .nil) ?_
    refine Fin.next ?_
    refine Tr.cond rfl (fun hb1 => ?_) (fun hb1 => ?_)
    · have hr1 := hb1; try simp only [true_and] at hb1
      refine Tr.seq ?_
      refine Tr.region ?_
      refine TrL.stepS 4 (.plain rfl (.assign rfl (.of rfl))) rfl rfl ?_
      refine TrL.nil ?_
      refine Fin.keepG (Γ' := [(4, _)]) (.same rfl .nil) ?_
      refine Fin.next ?_
      refine Tr.ret ?_
      refine Fin.thenRet ?_
      refine Fin.retI (rs := [_]) (Rs' := [is (.int .i64 (cmpS a b))]) rfl (.cons (.tmp rfl) .nil) (.cons (L.iv ?_) .nil)
      · have h1 : lessS a b = false := hr0
        rw [gtr_less] at hr1
        simp [cmpS, h1, hr1]
    · have hr1 := hb1; try simp only [true_and] at hb1
      refine Tr.skip ?_
      refine Fin.next ?_
      refine Tr.seq ?_
      refine Tr.region ?_
      refine TrL.stepS 4 (.plain rfl (.assign rfl (.of rfl))) rfl rfl ?_
      refine TrL.nil ?_
      refine Fin.keepG (Γ' := [(4, _)]) (.same rfl .nil) ?_
      refine Fin.next ?_
      refine Tr.ret ?_
      refine Fin.retI (rs := [_]) (Rs' := [is (.int .i64 (cmpS a b))]) rfl (.cons (.tmp rfl) .nil) (.cons (L.iv ?_) .nil)
      · have h1 : lessS a b = false := hr0
        rw [gtr_less] at hr1
        simp [cmpS, h1, hr1]

/- tidepool/tidepooltop.ahead33$2 -/
set_option maxRecDepth 100000 in
theorem F143 (a b : Int) : FnP Try.prog 143 [is (.int .i64 a), is (.int .i64 b)] (is (.int .i64 (cmpI a b))) := by
  refine FnP.mk' Try.func143 T.nm143 rfl (N := 11) rfl rfl fun B hB hκ => ?_
  refine Tr.seq ?_
  refine Tr.region ?_
  refine TrL.stepS 4 (.plain rfl (.assign rfl (.of rfl))) rfl rfl ?_
  refine TrL.nil ?_
  refine Fin.keepG (Γ' := [(0, _), (1, _)]) (.same rfl (.same rfl .nil)) ?_
  refine Fin.next ?_
  refine Tr.seq ?_
  refine Tr.seq ?_
  refine Tr.region ?_
  refine TrL.stepS 5 (.plain rfl (.move rfl (.of rfl))) rfl rfl ?_
  refine TrL.stepS 6 (.plain rfl (.move rfl (.of rfl))) rfl rfl ?_
  refine TrL.stepS 7 (.plain rfl (.lss rfl (.of rfl) (.of rfl))) rfl rfl ?_
  refine TrL.nil ?_
  refine Fin.keepG (Γ' := [(0, _), (1, _), (7, _)]) (.same rfl (.same rfl (.same rfl .nil))) ?_
  refine Fin.next ?_
  refine Tr.cond rfl (fun hb0 => ?_) (fun hb0 => ?_)
  · try simp only [decide_eq_true_eq, decide_eq_false_iff_not, beq_iff_eq, beq_eq_false_iff_ne, bne_iff_ne, bne_eq_false_iff_eq, Bool.and_eq_true, Bool.and_eq_false_iff, Bool.or_eq_true, Bool.or_eq_false_iff, Bool.not_eq_true', Bool.not_eq_false', gt_iff_lt, ge_iff_le, Int.not_lt, Int.not_le, ne_eq, Int.natCast_nonneg, true_and, and_true, Decidable.not_not, not_true_eq_false, not_false_eq_true] at hb0
    refine Tr.seq ?_
    refine Tr.region ?_
    refine TrL.stepS 4 (.plain rfl (.assign rfl (.of rfl))) rfl rfl ?_
    refine TrL.nil ?_
    refine Fin.keepG (Γ' := [(4, _)]) (.same rfl .nil) ?_
    refine Fin.next ?_
    refine Tr.ret ?_
    refine Fin.thenRet ?_
    refine Fin.retI (rs := [_]) (Rs' := [is (.int .i64 (cmpI a b))]) rfl (.cons (.tmp rfl) .nil) (.cons (L.iv ?_) .nil)
    · simp [cmpI, hb0]
  · try simp only [decide_eq_true_eq, decide_eq_false_iff_not, beq_iff_eq, beq_eq_false_iff_ne, bne_iff_ne, bne_eq_false_iff_eq, Bool.and_eq_true, Bool.and_eq_false_iff, Bool.or_eq_true, Bool.or_eq_false_iff, Bool.not_eq_true', Bool.not_eq_false', gt_iff_lt, ge_iff_le, Int.not_lt, Int.not_le, ne_eq, Int.natCast_nonneg, true_and, and_true, Decidable.not_not, not_true_eq_false, not_false_eq_true] at hb0
    refine Tr.skip ?_
    refine Fin.next ?_
    refine Tr.seq ?_
    refine Tr.seq ?_
    refine Tr.region ?_
    refine TrL.stepS 8 (.plain rfl (.move rfl (.of rfl))) rfl rfl ?_
    refine TrL.stepS 9 (.plain rfl (.move rfl (.of rfl))) rfl rfl ?_
    refine TrL.stepS 10 (.plain rfl (.gtr rfl (.of rfl) (.of rfl))) rfl rfl ?_
    refine TrL.nil ?_
    refine Fin.keepG (Γ' := [(10, _)]) (.same rfl .nil) ?_
    refine Fin.next ?_
    refine Tr.cond rfl (fun hb1 => ?_) (fun hb1 => ?_)
    · try simp only [decide_eq_true_eq, decide_eq_false_iff_not, beq_iff_eq, beq_eq_false_iff_ne, bne_iff_ne, bne_eq_false_iff_eq, Bool.and_eq_true, Bool.and_eq_false_iff, Bool.or_eq_true, Bool.or_eq_false_iff, Bool.not_eq_true', Bool.not_eq_false', gt_iff_lt, ge_iff_le, Int.not_lt, Int.not_le, ne_eq, Int.natCast_nonneg, true_and, and_true, Decidable.not_not, not_true_eq_false, not_false_eq_true] at hb1
      refine Tr.seq ?_
      refine Tr.region ?_
      refine TrL.stepS 4 (.plain rfl (.assign rfl (.of rfl))) rfl rfl ?_
      refine TrL.nil ?_
      refine Fin.keepG (Γ' := [(4, _)]) (.same rfl .nil) ?_
      refine Fin.next ?_
      refine Tr.ret ?_
      refine Fin.thenRet ?_
      refine Fin.retI (rs := [_]) (Rs' := [is (.int .i64 (cmpI a b))]) rfl (.cons (.tmp rfl) .nil) (.cons (L.iv ?_) .nil)
      · simp only [cmpI]; rw [if_neg (by omega), if_pos hb1]
    · try simp only [decide_eq_true_eq, decide_eq_false_iff_not, beq_iff_eq, beq_eq_false_iff_ne, bne_iff_ne, bne_eq_false_iff_eq, Bool.and_eq_true, Bool.and_eq_false_iff, Bool.or_eq_true, Bool.or_eq_false_iff, Bool.not_eq_true', Bool.not_eq_false', gt_iff_lt, ge_iff_le, Int.not_lt, Int.not_le, ne_eq, Int.natCast_nonneg, true_and, and_true, Decidable.not_not, not_true_eq_false, not_false_eq_true] at hb1
      refine Tr.skip ?_
      refine Fin.next ?_
      refine Tr.seq ?_
      refine Tr.region ?_
      refine TrL.stepS 4 (.plain rfl (.assign rfl (.of rfl))) rfl rfl ?_
      refine TrL.nil ?_
      refine Fin.keepG (Γ' := [(4, _)]) (.same rfl .nil) ?_
      refine Fin.next ?_
      refine Tr.ret ?_
      refine Fin.retI (rs := [_]) (Rs' := [is (.int .i64 (cmpI a b))]) rfl (.cons (.tmp rfl) .nil) (.cons (L.iv ?_) .nil)
      · simp only [cmpI]; rw [if_neg (by omega), if_neg (by omega)]

/- cmp.Or[int] -/
set_option maxRecDepth 100000 in
theorem F144 (xs : List Int) (hl : xs.length ≤ 1000) : FnP Try.prog 144 [Lst (intR .i64) xs] (is (.int .i64 (orI xs))) := by
  refine FnP.mk' Try.func144 T.nm144 rfl (N := 18) rfl rfl fun B hB hκ => ?_
  refine Tr.seq ?_
  refine Tr.region ?_
  refine TrL.stepS 2 (.plain rfl (.assign rfl (.of rfl))) rfl rfl ?_
  refine TrL.nil ?_
  refine Fin.keepG (Γ' := [(0, _)]) (.same rfl .nil) ?_
  refine Fin.next ?_
  refine Tr.seq ?_
  refine Tr.region ?_
  refine TrL.stepS 3 (.plain rfl (.assign rfl (.of rfl))) rfl rfl ?_
  refine TrL.nil ?_
  refine Fin.next ?_
  refine Tr.seq ?_
  refine Tr.seq ?_
  refine Tr.region ?_
  refine TrL.stepS 6 (.plain rfl (.move rfl (.of rfl))) rfl rfl ?_
  refine TrL.stepS 7 (.plain rfl (.len rfl (.of rfl) Try.underlying79)) rfl rfl ?_
  refine TrL.stepS 8 (.plain rfl (.move rfl (.of rfl))) rfl rfl ?_
  refine TrL.nil ?_
  refine Fin.keepG (Γ' := [(3, _), (6, _), (7, _), (8, _)]) (.same rfl (.same rfl (.same rfl (.same rfl .nil)))) ?_
  refine Fin.next ?_
  refine Tr.block ?_
  refine Tr.loopK (γ := Nat) (Γk := [(3, _), (6, _), (7, _)]) (Mk := []) (.same rfl (.same rfl (.same rfl .nil))) .nil (fun k => k ≤ xs.length ∧ orI xs = orI (xs.drop k)) (fun k => fun r => r) (fun k => fun r => (8, is (.int .i64 k)) :: r) (fun k => xs.length - k) (0) ?h0_0 ?hM_0 ?hG_0 ?hl_0
  case h0_0 => exact ⟨Nat.zero_le _, rfl⟩
  case hM_0 => exact .nil
  case hG_0 => exact (.eq rfl (by first | rfl | (congr 1; first | done | omega | (push_cast; omega) | (push_cast; rfl))) (.same rfl (.same rfl (.same rfl .nil))))
  case hl_0 =>
    intro k hI
    refine Tr.seq ?_
    refine Tr.region ?_
    refine TrL.stepS 9 (.plain rfl (.lss rfl (.of rfl) (.of rfl))) rfl rfl ?_
    refine TrL.nil ?_
    refine Fin.next ?_
    refine Tr.seq ?_
    refine Tr.cond rfl (fun hb0 => ?_) (fun hb0 => ?_)
    · try simp only [decide_eq_true_eq, decide_eq_false_iff_not, beq_iff_eq, beq_eq_false_iff_ne, bne_iff_ne, bne_eq_false_iff_eq, Bool.and_eq_true, Bool.and_eq_false_iff, Bool.or_eq_true, Bool.or_eq_false_iff, Bool.not_eq_true', Bool.not_eq_false', gt_iff_lt, ge_iff_le, Int.not_lt, Int.not_le, ne_eq, Int.natCast_nonneg, true_and, and_true, Decidable.not_not, not_true_eq_false, not_false_eq_true] at hb0
      obtain ⟨x, hx⟩ := ex_get (xs := xs) (i := k) (by omega)
      refine Tr.skip ?_
      refine Fin.next ?_
      refine Tr.seq ?_
      refine Tr.block ?_
      refine Tr.seq ?_
      refine Tr.region ?_
      refine TrL.stepS 10 (.plain rfl (.indexE rfl (.of rfl) (.of rfl) Try.underlying79 T.sz3 (by omega) hx)) rfl rfl ?_
      refine TrL.stepS 11 (.plain rfl (.load1 rfl (.of rfl) T.sc3)) rfl rfl ?_
      refine TrL.stepS 5 (.plain rfl (.assign rfl (.of rfl))) rfl rfl ?_
      refine TrL.nil ?_
      refine Fin.keepG (Γ' := [(3, _), (5, _), (6, _), (7, _), (8, _)]) (.same rfl (.same rfl (.same rfl (.same rfl (.same rfl .nil))))) ?_
      refine Fin.next ?_
      refine Tr.seq ?_
      refine Tr.region ?_
      refine TrL.stepS 12 (.plain rfl (.move rfl (.of rfl))) rfl rfl ?_
      refine TrL.stepS 13 (.plain rfl (.move rfl (.of rfl))) rfl rfl ?_
      refine TrL.stepS 14 (.plain rfl (.neq rfl (.of rfl) (.of rfl))) rfl rfl ?_
      refine TrL.nil ?_
      refine Fin.keepG (Γ' := [(3, _), (5, _), (6, _), (7, _), (8, _), (14, _)]) (.same rfl (.same rfl (.same rfl (.same rfl (.same rfl (.same rfl .nil)))))) ?_
      refine Fin.next ?_
      refine Tr.cond rfl (fun hb1 => ?_) (fun hb1 => ?_)
      · try simp only [decide_eq_true_eq, decide_eq_false_iff_not, beq_iff_eq, beq_eq_false_iff_ne, bne_iff_ne, bne_eq_false_iff_eq, Bool.and_eq_true, Bool.and_eq_false_iff, Bool.or_eq_true, Bool.or_eq_false_iff, Bool.not_eq_true', Bool.not_eq_false', gt_iff_lt, ge_iff_le, Int.not_lt, Int.not_le, ne_eq, Int.natCast_nonneg, true_and, and_true, Decidable.not_not, not_true_eq_false, not_false_eq_true] at hb1
        refine Tr.seq ?_
        refine Tr.region ?_
        refine TrL.stepS 15 (.plain rfl (.move rfl (.of rfl))) rfl rfl ?_
        refine TrL.stepS 2 (.plain rfl (.assign rfl (.of rfl))) rfl rfl ?_
        refine TrL.nil ?_
        refine Fin.keepG (Γ' := [(2, _)]) (.same rfl .nil) ?_
        refine Fin.next ?_
        refine Tr.ret ?_
        refine Fin.blockRet ?_
        refine Fin.thenRet ?_
        refine Fin.thenRet ?_
        refine Fin.blockRet ?_
        refine Fin.thenRet ?_
        refine Fin.retI (rs := [_]) (Rs' := [is (.int .i64 (orI xs))]) rfl (.cons (.tmp rfl) .nil) (.cons (L.iv ?_) .nil)
        · rw [hI.2, or_step hx, if_neg (by simpa using hb1)]
      · try simp only [decide_eq_true_eq, decide_eq_false_iff_not, beq_iff_eq, beq_eq_false_iff_ne, bne_iff_ne, bne_eq_false_iff_eq, Bool.and_eq_true, Bool.and_eq_false_iff, Bool.or_eq_true, Bool.or_eq_false_iff, Bool.not_eq_true', Bool.not_eq_false', gt_iff_lt, ge_iff_le, Int.not_lt, Int.not_le, ne_eq, Int.natCast_nonneg, true_and, and_true, Decidable.not_not, not_true_eq_false, not_false_eq_true] at hb1
        have hd := or_step hx
        refine Tr.skip ?_
        refine Fin.blockNormal ?_
        refine Fin.next ?_
        refine Tr.region ?_
        first | refine TrL.stepS 16 (.plain rfl (.addI L.bd_i64 rfl (.of rfl) (.of rfl) (by omega) (by omega))) rfl rfl ?_ | refine TrL.stepS 16 (.plain rfl (.add rfl (.of rfl) (.of rfl))) rfl rfl ?_
        refine TrL.stepS 8 (.plain rfl (.move rfl (.of rfl))) rfl rfl ?_
        refine TrL.nil ?_
        refine Fin.keepG (Γ' := [(3, _), (6, _), (7, _), (8, _)]) (.same rfl (.same rfl (.same rfl (.same rfl .nil)))) ?_
        exact Fin.again (k + 1) (⟨by omega, by rw [hI.2, hd, if_pos (by simpa using hb1)]⟩) (by omega) .nil (.eq rfl (by first | rfl | (congr 1; first | done | omega | (push_cast; omega) | (push_cast; rfl))) (.same rfl (.same rfl (.same rfl .nil))))
    · try simp only [decide_eq_true_eq, decide_eq_false_iff_not, beq_iff_eq, beq_eq_false_iff_ne, bne_iff_ne, bne_eq_false_iff_eq, Bool.and_eq_true, Bool.and_eq_false_iff, Bool.or_eq_true, Bool.or_eq_false_iff, Bool.not_eq_true', Bool.not_eq_false', gt_iff_lt, ge_iff_le, Int.not_lt, Int.not_le, ne_eq, Int.natCast_nonneg, true_and, and_true, Decidable.not_not, not_true_eq_false, not_false_eq_true] at hb0
      have hd : xs.drop k = [] := List.drop_eq_nil_of_le (by omega)
      refine Tr.exit ?_
      refine Fin.thenExit ?_
      refine Fin.thenExit ?_
      refine Fin.blockOut ?_
      refine Fin.next ?_
      refine Tr.seq ?_
      refine Tr.region ?_
      refine TrL.stepS 17 (.plain rfl (.move rfl (.of rfl))) rfl rfl ?_
      refine TrL.stepS 2 (.plain rfl (.assign rfl (.of rfl))) rfl rfl ?_
      refine TrL.nil ?_
      refine Fin.keepG (Γ' := [(2, _)]) (.same rfl .nil) ?_
      refine Fin.next ?_
      refine Tr.ret ?_
      refine Fin.retI (rs := [_]) (Rs' := [is (.int .i64 (orI xs))]) rfl (.cons (.tmp rfl) .nil) (.cons (L.iv ?_) .nil)
      · rw [hI.2, hd]; rfl

/- tidepool/agg.Primary -/
set_option maxRecDepth 100000 in
theorem F93 (a b : Pn) : FnP Try.prog 93 [is (.agg #[.string a.1, .int .i64 a.2.1, .int .i64 a.2.2]), is (.agg #[.string b.1, .int .i64 b.2.1, .int .i64 b.2.2])] (is (.int .i64 (cmpP false a b))) := by
  refine FnP.mk' Try.func93 T.nm93 rfl (N := 22) rfl rfl fun B hB hκ => ?_
  refine Tr.seq ?_
  refine Tr.region ?_
  refine TrL.stepS 2 (.plain rfl (.boxR rfl (.of rfl))) rfl rfl ?_
  refine TrL.stepS 3 (.plain rfl (.boxR rfl (.of rfl))) rfl rfl ?_
  refine TrL.stepS 4 (.plain rfl (.assign rfl (.of rfl))) rfl rfl ?_
  refine TrL.nil ?_
  refine Fin.keepG (Γ' := [(2, _), (3, _)]) (.same rfl (.same rfl .nil)) ?_
  refine Fin.next ?_
  refine Tr.seq ?_
  refine Tr.regionK T.mixed (by kernel_rfl) (by kernel_rfl) ?_
  refine ChainK.consS 5 (.plain rfl (.fieldC rfl (.of rfl) T.fl140_0)) rfl ?_
  refine ChainK.consS 6 (.plain rfl (.load1 rfl (.of rfl) T.sc9)) rfl ?_
  refine ChainK.consS 7 (.plain rfl (.fieldC rfl (.of rfl) T.fl140_0)) rfl ?_
  refine ChainK.consS 8 (.plain rfl (.load1 rfl (.of rfl) T.sc9)) rfl ?_
  refine ChainK.consS 9 (.plain rfl (.call rfl (F146 ..) (.cons (.of rfl) (.cons (.of rfl) .nil)))) rfl ?_
  refine ChainK.consS 10 (.plain rfl (.fieldC rfl (.of rfl) T.fl140_2)) rfl ?_
  refine ChainK.consS 11 (.plain rfl (.load1 rfl (.of rfl) T.sc2)) rfl ?_
  refine ChainK.consS 12 (.plain rfl (.fieldC rfl (.of rfl) T.fl140_2)) rfl ?_
  refine ChainK.consS 13 (.plain rfl (.load1 rfl (.of rfl) T.sc2)) rfl ?_
  refine ChainK.consS 14 (.plain rfl (.call rfl (F145 ..) (.cons (.of rfl) (.cons (.of rfl) .nil)))) rfl ?_
  refine ChainK.consS 15 (.plain rfl (.fieldC rfl (.of rfl) T.fl140_1)) rfl ?_
  refine ChainK.consS 16 (.plain rfl (.load1 rfl (.of rfl) T.sc2)) rfl ?_
  refine ChainK.consS 17 (.plain rfl (.fieldC rfl (.of rfl) T.fl140_1)) rfl ?_
  refine ChainK.consS 18 (.plain rfl (.load1 rfl (.of rfl) T.sc2)) rfl ?_
  refine ChainK.consS 19 (.plain rfl (.call rfl (F145 ..) (.cons (.of rfl) (.cons (.of rfl) .nil)))) rfl ?_
  refine ChainK.consS 20 (.plain rfl (.slice (K := (intR .i64)) (xs := [_, _, _]) rfl (.cons (.map (.of rfl) (intR_elem _)) (.cons (.map (.of rfl) (intR_elem _)) (.cons (.map (.of rfl) (intR_elem _)) .nil))) Try.underlying79 T.sz3 T.zb3 rfl (by decide))) rfl ?_
  refine ChainK.consS 21 (.plain rfl (.call rfl (F144 [cmpS a.1 b.1, cmpI a.2.2 b.2.2, cmpI a.2.1 b.2.1] (by simp)) (.cons (.of rfl) .nil))) rfl ?_
  refine ChainK.consS 4 (.plain rfl (.assign rfl (.of rfl))) rfl ?_
  refine ChainK.nil ?_
  refine Fin.keepG (Γ' := [(4, _)]) (.same rfl .nil) ?_
  refine Fin.next ?_
  refine Tr.ret ?_
  refine Fin.retI (rs := [_]) (Rs' := [is (.int .i64 (cmpP false a b))]) rfl (.cons (.tmp rfl) .nil) (.cons (L.iv ?_) .nil)
  · simp [cmpP]

/- tidepool/agg.Secondary -/
set_option maxRecDepth 100000 in
theorem F92 (a b : Pn) : FnP Try.prog 92 [is (.agg #[.string a.1, .int .i64 a.2.1, .int .i64 a.2.2]), is (.agg #[.string b.1, .int .i64 b.2.1, .int .i64 b.2.2])] (is (.int .i64 (cmpP true a b))) := by
  refine FnP.mk' Try.func92 T.nm92 rfl (N := 22) rfl rfl fun B hB hκ => ?_
  refine Tr.seq ?_
  refine Tr.region ?_
  refine TrL.stepS 2 (.plain rfl (.boxR rfl (.of rfl))) rfl rfl ?_
  refine TrL.stepS 3 (.plain rfl (.boxR rfl (.of rfl))) rfl rfl ?_
  refine TrL.stepS 4 (.plain rfl (.assign rfl (.of rfl))) rfl rfl ?_
  refine TrL.nil ?_
  refine Fin.keepG (Γ' := [(2, _), (3, _)]) (.same rfl (.same rfl .nil)) ?_
  refine Fin.next ?_
  refine Tr.seq ?_
  refine Tr.regionK T.mixed (by kernel_rfl) (by kernel_rfl) ?_
  refine ChainK.consS 5 (.plain rfl (.fieldC rfl (.of rfl) T.fl140_2)) rfl ?_
  refine ChainK.consS 6 (.plain rfl (.load1 rfl (.of rfl) T.sc2)) rfl ?_
  refine ChainK.consS 7 (.plain rfl (.fieldC rfl (.of rfl) T.fl140_2)) rfl ?_
  refine ChainK.consS 8 (.plain rfl (.load1 rfl (.of rfl) T.sc2)) rfl ?_
  refine ChainK.consS 9 (.plain rfl (.call rfl (F145 ..) (.cons (.of rfl) (.cons (.of rfl) .nil)))) rfl ?_
  refine ChainK.consS 10 (.plain rfl (.fieldC rfl (.of rfl) T.fl140_0)) rfl ?_
  refine ChainK.consS 11 (.plain rfl (.load1 rfl (.of rfl) T.sc9)) rfl ?_
  refine ChainK.consS 12 (.plain rfl (.fieldC rfl (.of rfl) T.fl140_0)) rfl ?_
  refine ChainK.consS 13 (.plain rfl (.load1 rfl (.of rfl) T.sc9)) rfl ?_
  refine ChainK.consS 14 (.plain rfl (.call rfl (F146 ..) (.cons (.of rfl) (.cons (.of rfl) .nil)))) rfl ?_
  refine ChainK.consS 15 (.plain rfl (.fieldC rfl (.of rfl) T.fl140_1)) rfl ?_
  refine ChainK.consS 16 (.plain rfl (.load1 rfl (.of rfl) T.sc2)) rfl ?_
  refine ChainK.consS 17 (.plain rfl (.fieldC rfl (.of rfl) T.fl140_1)) rfl ?_
  refine ChainK.consS 18 (.plain rfl (.load1 rfl (.of rfl) T.sc2)) rfl ?_
  refine ChainK.consS 19 (.plain rfl (.call rfl (F145 ..) (.cons (.of rfl) (.cons (.of rfl) .nil)))) rfl ?_
  refine ChainK.consS 20 (.plain rfl (.slice (K := (intR .i64)) (xs := [_, _, _]) rfl (.cons (.map (.of rfl) (intR_elem _)) (.cons (.map (.of rfl) (intR_elem _)) (.cons (.map (.of rfl) (intR_elem _)) .nil))) Try.underlying79 T.sz3 T.zb3 rfl (by decide))) rfl ?_
  refine ChainK.consS 21 (.plain rfl (.call rfl (F144 [cmpI a.2.2 b.2.2, cmpS a.1 b.1, cmpI a.2.1 b.2.1] (by simp)) (.cons (.of rfl) .nil))) rfl ?_
  refine ChainK.consS 4 (.plain rfl (.assign rfl (.of rfl))) rfl ?_
  refine ChainK.nil ?_
  refine Fin.keepG (Γ' := [(4, _)]) (.same rfl .nil) ?_
  refine Fin.next ?_
  refine Tr.ret ?_
  refine Fin.retI (rs := [_]) (Rs' := [is (.int .i64 (cmpP true a b))]) rfl (.cons (.tmp rfl) .nil) (.cons (L.iv ?_) .nil)
  · simp [cmpP]

end Go.Proofs.Ytemkogoclljhpaa