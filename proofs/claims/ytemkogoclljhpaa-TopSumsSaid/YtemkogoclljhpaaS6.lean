import Derived.Test.YtemkogoclljhpaaS5
namespace Go.Proofs.Ytemkogoclljhpaa
open Go Go.Proofs.Ytemkogoclljhpaa.L
set_option linter.unusedVariables false
set_option linter.unusedSimpArgs false

namespace T
theorem S6bd122_0_1_2_3 (c0 : Int) (c1 : Int) (c2 : Int) (c3 : Int) : Try.prog.built 122 [(0, .int .i64 c0), (1, .int .i64 c1), (2, .int .i64 c2), (3, .int .i64 c3)] = some #[.int .i64 c0, .int .i64 c1, .int .i64 c2, .int .i64 c3] := by kernel_rfl
end T


theorem fit_zero : fit 0 = true := by decide
theorem perm_sum {xs ys : List Int} (h : xs.Perm ys) : xs.sum = ys.sum := by
  induction h with
  | nil => rfl
  | cons x h ih => simp [ih]
  | swap x y l => simp; omega
  | trans h1 h2 i1 i2 => rw [i1, i2]
theorem foldl_min (xs : List Int) : ∀ a : Int, xs.foldl min a ≤ a ∧ (∀ x ∈ xs, xs.foldl min a ≤ x) ∧ (xs.foldl min a = a ∨ xs.foldl min a ∈ xs) := by
  induction xs with
  | nil => intro a; simp
  | cons x xs ih =>
    intro a
    obtain ⟨h1, h2, h3⟩ := ih (min a x)
    simp only [List.foldl_cons]
    refine ⟨by omega, fun y hy => ?_, ?_⟩
    · rcases List.mem_cons.1 hy with rfl | hy
      · omega
      · exact h2 y hy
    · rcases h3 with h3 | h3
      · rcases Int.le_total a x with h | h
        · exact .inl (by omega)
        · exact .inr (by rw [h3]; simp; exact .inl (by omega))
      · exact .inr (by simp [h3])
theorem foldl_max (xs : List Int) : ∀ a : Int, a ≤ xs.foldl max a ∧ (∀ x ∈ xs, x ≤ xs.foldl max a) ∧ (xs.foldl max a = a ∨ xs.foldl max a ∈ xs) := by
  induction xs with
  | nil => intro a; simp
  | cons x xs ih =>
    intro a
    obtain ⟨h1, h2, h3⟩ := ih (max a x)
    simp only [List.foldl_cons]
    refine ⟨by omega, fun y hy => ?_, ?_⟩
    · rcases List.mem_cons.1 hy with rfl | hy
      · omega
      · exact h2 y hy
    · rcases h3 with h3 | h3
      · rcases Int.le_total a x with h | h
        · exact .inr (by rw [h3]; simp; exact .inl (by omega))
        · exact .inl (by omega)
      · exact .inr (by simp [h3])
theorem mn_le {xs : List Int} {x : Int} (h : x ∈ xs) : mn xs ≤ x := by
  cases xs with
  | nil => simp at h
  | cons a bs =>
    have := foldl_min bs a
    rcases List.mem_cons.1 h with rfl | h
    · exact this.1
    · exact this.2.1 x h
theorem mn_mem {xs : List Int} (h : xs ≠ []) : mn xs ∈ xs := by
  cases xs with
  | nil => exact absurd rfl h
  | cons a bs =>
    rcases (foldl_min bs a).2.2 with h | h
    · simp [mn, h]
    · simp [mn, h]
theorem mx_le {xs : List Int} {x : Int} (h : x ∈ xs) : x ≤ mx xs := by
  cases xs with
  | nil => simp at h
  | cons a bs =>
    have := foldl_max bs a
    rcases List.mem_cons.1 h with rfl | h
    · exact this.1
    · exact this.2.1 x h
theorem mx_mem {xs : List Int} (h : xs ≠ []) : mx xs ∈ xs := by
  cases xs with
  | nil => exact absurd rfl h
  | cons a bs =>
    rcases (foldl_max bs a).2.2 with h | h
    · simp [mx, h]
    · simp [mx, h]
theorem mn_eq {xs : List Int} {a : Int} (h : a ∈ xs) (k : ∀ x ∈ xs, a ≤ x) : mn xs = a := by
  have h1 := mn_le h
  have h2 := k _ (mn_mem (xs := xs) (by rintro rfl; simp at h))
  omega
theorem mx_eq {xs : List Int} {a : Int} (h : a ∈ xs) (k : ∀ x ∈ xs, x ≤ a) : mx xs = a := by
  have h1 := mx_le h
  have h2 := k _ (mx_mem (xs := xs) (by rintro rfl; simp at h))
  omega
theorem mn_perm {xs ys : List Int} (h : xs.Perm ys) : mn xs = mn ys := by
  by_cases e : ys = []
  · subst e; rw [List.Perm.eq_nil h]
  · exact mn_eq (h.mem_iff.2 (mn_mem e)) fun x hx => mn_le (h.mem_iff.1 hx)
theorem mx_perm {xs ys : List Int} (h : xs.Perm ys) : mx xs = mx ys := by
  by_cases e : ys = []
  · subst e; rw [List.Perm.eq_nil h]
  · exact mx_eq (h.mem_iff.2 (mx_mem e)) fun x hx => mx_le (h.mem_iff.1 hx)
theorem mn_two (xs ys : List Int) (hx : xs ≠ []) (hy : ys ≠ []) : mn (xs ++ ys) = min (mn xs) (mn ys) := by
  refine mn_eq ?_ fun x h => ?_
  · have h1 := mn_mem hx; have h2 := mn_mem hy
    rcases Int.le_total (mn xs) (mn ys) with h | h
    · rw [Int.min_eq_left h]; exact List.mem_append_left _ h1
    · rw [Int.min_eq_right h]; exact List.mem_append_right _ h2
  · rcases List.mem_append.1 h with h | h <;> have := mn_le h <;> omega
theorem mx_two (xs ys : List Int) (hx : xs ≠ []) (hy : ys ≠ []) : mx (xs ++ ys) = max (mx xs) (mx ys) := by
  refine mx_eq ?_ fun x h => ?_
  · have h1 := mx_mem hx; have h2 := mx_mem hy
    rcases Int.le_total (mx xs) (mx ys) with h | h
    · rw [Int.max_eq_right h]; exact List.mem_append_right _ h2
    · rw [Int.max_eq_left h]; exact List.mem_append_left _ h1
  · rcases List.mem_append.1 h with h | h <;> have := mx_le h <;> omega
theorem aggOf_some {xs : List Int} (h : xs ≠ []) (hf : fit xs.sum = true) : aggOf xs = ((xs.length : Int), xs.sum, mn xs, mx xs) := by simp [aggOf, h, hf]
theorem aggOf_nil : aggOf [] = (0, 0, 0, 0) := by simp [aggOf]
theorem aggOf_not {xs : List Int} (hf : fit xs.sum = false) : aggOf xs = (0, 0, 0, 0) := by simp [aggOf, hf]
theorem blank_agg (xs : List Int) : blankA (aggOf xs) = decide (xs = [] ∨ fit xs.sum = false) := by
  by_cases h : xs = []
  · simp [h, aggOf, blankA]
  · cases hf : fit xs.sum with
    | false => simp [aggOf_not hf, blankA]
    | true =>
      have : 0 < xs.length := List.length_pos_iff.2 h
      rw [aggOf_some h hf]; simp [blankA, h]
theorem right_agg (xs : List Int) : rightA (aggOf xs) = true := by
  by_cases h : xs = []
  · simp [h, aggOf, rightA, blankA]
  · cases hf : fit xs.sum with
    | false => simp [aggOf_not hf, rightA, blankA]
    | true =>
      have h1 : 0 < xs.length := List.length_pos_iff.2 h
      have h2 : mn xs ≤ mx xs := Int.le_trans (mn_le (mx_mem h)) (Int.le_refl _)
      rw [aggOf_some h hf]
      simp only [rightA, Bool.or_eq_true, Bool.and_eq_true, decide_eq_true_eq]
      refine .inr ⟨by omega, h2, ?_⟩
      match xs, h with
      | [x], _ => right; simp [mn, mx]
      | x :: y :: xs, _ => left; simp; omega
/-- parts joined -/
theorem joins (LL : List (List Int)) (hf : ∀ l ∈ LL, fit l.sum = true) : ((LL.map aggOf).filter fun a => !blankA a) = (LL.filter fun l => !decide (l = [])).map aggOf := by
  induction LL with
  | nil => rfl
  | cons l LL ih =>
    have h1 := hf l (by simp)
    have h2 := blank_agg l
    simp only [List.map_cons, List.filter_cons]
    rw [ih fun m hm => hf m (by simp [hm]), h2]
    by_cases h : l = [] <;> simp [h, h1]
theorem join_flat (LL : List (List Int)) (hf : ∀ l ∈ LL, fit l.sum = true) (hn : ∀ l ∈ LL, l ≠ []) : ((LL.map aggOf).map (·.1)).sum = (LL.flatten.length : Int) ∧ ((LL.map aggOf).map (·.2.1)).sum = LL.flatten.sum ∧ mn ((LL.map aggOf).map (·.2.2.1)) = mn LL.flatten ∧ mx ((LL.map aggOf).map (·.2.2.2)) = mx LL.flatten := by
  have key : ∀ LL : List (List Int), (∀ l ∈ LL, fit l.sum = true) → (∀ l ∈ LL, l ≠ []) → ((LL.map aggOf).map (·.1)).sum = (LL.flatten.length : Int) ∧ ((LL.map aggOf).map (·.2.1)).sum = LL.flatten.sum ∧ (LL ≠ [] → LL.flatten ≠ [] ∧ mn ((LL.map aggOf).map (·.2.2.1)) = mn LL.flatten ∧ mx ((LL.map aggOf).map (·.2.2.2)) = mx LL.flatten) := by
    intro LL
    induction LL with
    | nil => intro _ _; simp
    | cons l LL ih =>
      intro hf hn
      obtain ⟨h1, h2, h3⟩ := ih (fun m hm => hf m (by simp [hm])) fun m hm => hn m (by simp [hm])
      have hl := hn l (by simp)
      have e := aggOf_some hl (hf l (by simp))
      refine ⟨?_, ?_, fun _ => ⟨by simp [hl], ?_⟩⟩
      · simp only [List.map_cons, List.sum_cons, h1, e, List.flatten_cons, List.length_append]; omega
      · simp only [List.map_cons, List.sum_cons, h2, e, List.flatten_cons, List.sum_append]
      · by_cases hL : LL = []
        · subst hL; simp [e, mn, mx]
        · obtain ⟨h4, h5, h6⟩ := h3 hL
          have m1 : ((LL.map aggOf).map (·.2.2.1)) ≠ [] := by simpa using hL
          have m2 : ((LL.map aggOf).map (·.2.2.2)) ≠ [] := by simpa using hL
          rw [List.flatten_cons, mn_two _ _ hl h4, mx_two _ _ hl h4, ← h5, ← h6]
          constructor
          · have := mn_two [mn l] _ (by simp) m1
            simpa [e, mn] using this
          · have := mx_two [mx l] _ (by simp) m2
            simpa [e, mx] using this
  obtain ⟨h1, h2, h3⟩ := key LL hf hn
  refine ⟨h1, h2, ?_⟩
  by_cases hL : LL = []
  · subst hL; simp
  · exact (h3 hL).2
theorem flat_ne (LL : List (List Int)) : (LL.filter fun l => !decide (l = [])).flatten = LL.flatten := by
  induction LL with
  | nil => rfl
  | cons l LL ih =>
    by_cases h : l = []
    · subst h; simpa using ih
    · simp [h, ih]
theorem join_all {LL : List (List Int)} {xs : List Int} (hp : LL.flatten.Perm xs) (hl : xs.length ≤ 1000) (hf : ∀ l ∈ LL, fit l.sum = true) : joinE (LL.map aggOf) = fit xs.sum ∧ (fit xs.sum = true → joinOf (LL.map aggOf) = aggOf xs) := by
  have hj := joins LL hf
  have hk := join_flat (LL.filter fun l => !decide (l = [])) (fun l h => hf l (List.mem_filter.1 h).1) (fun l h => by simpa using (List.mem_filter.1 h).2)
  rw [flat_ne] at hk
  obtain ⟨h1, h2, h3, h4⟩ := hk
  have hlen := hp.length_eq
  have hfl : fit (LL.flatten.length : Int) = true := by rw [fit_iff]; omega
  constructor
  · simp only [joinE]
    rw [hj, h1, h2, hfl, perm_sum hp]; simp
  · intro hx
    simp only [joinOf]
    rw [hj, h1, h2, h3, h4, hfl, perm_sum hp, hx, mn_perm hp, mx_perm hp, hlen]
    simp only [Bool.and_self, if_true]
    by_cases e : xs = []
    · subst e; simp [aggOf, mn, mx]
    · rw [aggOf_some e hx]
theorem joinOf_not {ys : List Ag} (h : joinE ys = false) : joinOf ys = (0, 0, 0, 0) := by
  simp only [joinE] at h
  simp only [joinOf, h]; simp
theorem one_agg (v : Int) (hv : -9223372036854775808 ≤ v ∧ v ≤ 9223372036854775807) : aggOf [v] = (1, v, v, v) := by
  have : fit [v].sum = true := by rw [fit_iff]; simp; omega
  rw [aggOf_some (by simp) this]; simp [mn, mx]
theorem put_one {ys : List Int} {v : Int} (hl : ys.length ≤ 900) (hv : -9223372036854775808 ≤ v ∧ v ≤ 9223372036854775807) (hf : fit ys.sum = true) : joinE [aggOf ys, (1, v, v, v)] = fit (ys.sum + v) ∧ (fit (ys.sum + v) = true → joinOf [aggOf ys, (1, v, v, v)] = aggOf (ys ++ [v])) := by
  have := join_all (LL := [ys, [v]]) (xs := ys ++ [v]) (by simp) (by simp; omega) (by simp [hf]; rw [fit_iff]; omega)
  simpa [one_agg v hv] using this
theorem agg_sum {ys : List Int} (hf : fit ys.sum = true) : (aggOf ys).2.1 = ys.sum := by
  by_cases h : ys = []
  · subst h; simp [aggOf]
  · rw [aggOf_some h hf]
theorem okA_agg (ys : List Int) (hl : ys.length ≤ 1000) : okA (aggOf ys) := by
  by_cases h : ys = []
  · subst h; simp [aggOf, okA]
  · cases hf : fit ys.sum with
    | false => simp [aggOf_not hf, okA]
    | true =>
      rw [aggOf_some h hf]
      have := fit_iff.1 hf
      refine ⟨?_, this⟩
      simp only; omega
def cells3 : Nat → Ag → Ag → Ag → List Value
  | 0, _, _, _ => [.int .i64 0, .int .i64 0, .int .i64 0, .int .i64 0, .int .i64 0, .int .i64 0, .int .i64 0, .int .i64 0, .int .i64 0, .int .i64 0, .int .i64 0, .int .i64 0]
  | 1, a, _, _ => [.int .i64 a.1, .int .i64 a.2.1, .int .i64 a.2.2.1, .int .i64 a.2.2.2, .int .i64 0, .int .i64 0, .int .i64 0, .int .i64 0, .int .i64 0, .int .i64 0, .int .i64 0, .int .i64 0]
  | 2, a, b, _ => [.int .i64 a.1, .int .i64 a.2.1, .int .i64 a.2.2.1, .int .i64 a.2.2.2, .int .i64 b.1, .int .i64 b.2.1, .int .i64 b.2.2.1, .int .i64 b.2.2.2, .int .i64 0, .int .i64 0, .int .i64 0, .int .i64 0]
  | _, a, b, c => [.int .i64 a.1, .int .i64 a.2.1, .int .i64 a.2.2.1, .int .i64 a.2.2.2, .int .i64 b.1, .int .i64 b.2.1, .int .i64 b.2.2.1, .int .i64 b.2.2.2, .int .i64 c.1, .int .i64 c.2.1, .int .i64 c.2.2.1, .int .i64 c.2.2.2]
theorem idx136_0 (a b c : Value) : ∀ w, (Instr.index 136 (.agg #[a, b, c]) (.int .i64 0)).run Try.prog w = .ok a w := by
  intro w
  kernel_rfl
theorem idx136_1 (a b c : Value) : ∀ w, (Instr.index 136 (.agg #[a, b, c]) (.int .i64 1)).run Try.prog w = .ok b w := by
  intro w
  kernel_rfl
theorem idx136_2 (a b c : Value) : ∀ w, (Instr.index 136 (.agg #[a, b, c]) (.int .i64 2)).run Try.prog w = .ok c w := by
  intro w
  kernel_rfl
theorem fit_split {xs : List Int} {k : Nat} (h : ¬ k < xs.length) : xs.take k = xs := List.take_of_length_le (by omega)
theorem perm3_0 {xs l0 l1 l2 : List Int} {k : Nat} {x : Int} (h : (l0 ++ l1 ++ l2).Perm (xs.take k)) (hx : xs[k]? = some x) : ((l0 ++ [x]) ++ l1 ++ l2).Perm (xs.take (k + 1)) := by
  rw [take_snoc hx]
  refine List.Perm.trans ?_ (h.append_right [x])
  refine List.Perm.trans (l₂ := x :: (l0 ++ l1 ++ l2)) (by simp) (by simpa using (List.perm_append_comm (l₁ := l0 ++ l1 ++ l2) (l₂ := [x])).symm)

theorem perm3_1 {xs l0 l1 l2 : List Int} {k : Nat} {x : Int} (h : (l0 ++ l1 ++ l2).Perm (xs.take k)) (hx : xs[k]? = some x) : (l0 ++ (l1 ++ [x]) ++ l2).Perm (xs.take (k + 1)) := by
  rw [take_snoc hx]
  refine List.Perm.trans ?_ (h.append_right [x])
  refine List.Perm.trans (l₂ := x :: (l0 ++ l1 ++ l2)) (by simpa using List.perm_middle (l₁ := l0 ++ l1) (l₂ := l2)) (by simpa using (List.perm_append_comm (l₁ := l0 ++ l1 ++ l2) (l₂ := [x])).symm)

theorem perm3_2 {xs l0 l1 l2 : List Int} {k : Nat} {x : Int} (h : (l0 ++ l1 ++ l2).Perm (xs.take k)) (hx : xs[k]? = some x) : (l0 ++ l1 ++ (l2 ++ [x])).Perm (xs.take (k + 1)) := by
  rw [take_snoc hx]
  refine List.Perm.trans ?_ (h.append_right [x])
  simp

/- tidepool/tidepooltop.aggs33 -/
set_option maxRecDepth 100000 in
theorem F22 (xs ps : List Int) (hl : xs.length ≤ 30) (hpl : ps.length ≤ 12) (hx0 : ∀ x ∈ xs, -9223372036854775808 ≤ x ∧ x ≤ 9223372036854775807) (hp0 : ∀ p ∈ ps, 0 ≤ p ∧ p ≤ 255) : FnP Try.prog 22 [Lst (intR .i64) xs, Lst (intR .u8) ps] (is (.bool true)) := by
  have hl' : xs.length ≤ 1000 := by omega
  refine FnP.mk' Try.func22 T.nm22 rfl (N := 216) rfl rfl fun B hB hκ => ?_
  refine Tr.seq ?_
  refine Tr.region ?_
  refine TrL.stepS 4 (.plain rfl (.assign rfl (.of rfl))) rfl rfl ?_
  refine TrL.nil ?_
  refine Fin.keepG (Γ' := [(0, _), (1, _)]) (.same rfl (.same rfl .nil)) ?_
  refine Fin.next ?_
  refine Tr.seq ?_
  refine Tr.region ?_
  refine TrL.stepS 29 (.plain rfl (.move rfl (.of rfl))) rfl rfl ?_
  refine TrL.stepS 30 (.plain rfl (.call rfl (F87 xs hl' hx0) (.cons (.of rfl) .nil))) rfl rfl ?_
  refine TrL.stepS 28 (.plain rfl (.move rfl (.of rfl))) rfl rfl ?_
  refine TrL.stepS 31 (.plain rfl (.extract rfl (.of rfl) rfl)) rfl rfl ?_
  refine TrL.stepS 32 (.plain rfl (.extract rfl (.of rfl) rfl)) rfl rfl ?_
  refine TrL.allocS 20 (zs := [.int .i64 0, .int .i64 0, .int .i64 0, .int .i64 0]) rfl rfl (by kernel_rfl) 5 rfl rfl rfl fun b20 => ?_
  refine TrL.storeW 20 (vs := [_, _, _, _]) rfl rfl rfl (.of rfl) (.of rfl) rfl rfl T.sz122 rfl rfl ?_
  refine TrL.stepS 6 (.plain rfl (.assign rfl (.of rfl))) rfl rfl ?_
  refine TrL.nil ?_
  refine Fin.keepG (Γ' := [(0, _), (1, _), (5, _), (6, _)]) (.same rfl (.same rfl (.same rfl (.same rfl .nil)))) ?_
  refine Fin.next ?_
  refine Tr.seq ?_
  refine Tr.region ?_
  refine TrL.stepS 34 (.plain rfl (.move rfl (.of rfl))) rfl rfl ?_
  refine TrL.stepS 35 (.plain rfl (.call rfl (F78 xs hl' hx0) (.cons (.of rfl) .nil))) rfl rfl ?_
  refine TrL.stepS 33 (.plain rfl (.move rfl (.of rfl))) rfl rfl ?_
  refine TrL.stepS 36 (.plain rfl (.extract rfl (.of rfl) rfl)) rfl rfl ?_
  refine TrL.stepS 37 (.plain rfl (.extract rfl (.of rfl) rfl)) rfl rfl ?_
  refine TrL.allocS 21 (zs := [.int .i64 0, .int .i64 0, .int .i64 0, .int .i64 0]) rfl rfl (by kernel_rfl) 7 rfl rfl rfl fun b21 => ?_
  refine TrL.storeW 21 (vs := [_, _, _, _]) rfl rfl rfl (.of rfl) (.of rfl) rfl rfl T.sz122 rfl rfl ?_
  refine TrL.stepS 8 (.plain rfl (.assign rfl (.of rfl))) rfl rfl ?_
  refine TrL.nil ?_
  refine Fin.keepG (Γ' := [(0, _), (1, _), (5, _), (6, _), (7, _), (8, _)]) (.same rfl (.same rfl (.same rfl (.same rfl (.same rfl (.same rfl .nil)))))) ?_
  refine Fin.next ?_
  refine Tr.seq ?_
  refine Tr.seq ?_
  refine Tr.region ?_
  refine TrL.stepS 38 (.plain rfl (.loadBN 21 (k := 4) (ds := [_, _, _, _]) rfl (.of rfl) rfl rfl rfl T.ag122 rfl)) rfl rfl ?_
  refine TrL.stepS 39 (.plain rfl (.loadBN 20 (k := 4) (ds := [_, _, _, _]) rfl (.of rfl) rfl rfl rfl T.ag122 rfl)) rfl rfl ?_
  refine TrL.stepS 40 (.plain rfl (.neqS rfl (.of rfl) (.of rfl) (by kernel_rfl) (T.eq122 _ _ _ _ _ _ _ _))) rfl rfl ?_
  refine TrL.stepS 41 (.plain rfl (.move rfl (.of rfl))) rfl rfl ?_
  refine TrL.stepS 42 (.guarded rfl rfl rfl fun hg => .move rfl (.of rfl)) rfl rfl ?_
  refine TrL.stepS 43 (.guarded rfl rfl rfl fun hg => .move rfl (.of rfl)) rfl rfl ?_
  refine TrL.stepS 44 (.guarded rfl rfl rfl fun hg => .eql rfl (.cond rfl hg) (.of rfl)) rfl rfl ?_
  refine TrL.stepS 45 (.guarded rfl rfl rfl fun hg => .neqB rfl (.cond rfl hg) (.cond rfl hg) Try.underlying4) rfl rfl ?_
  refine TrL.stepS 46 (.plain rfl (.or rfl (.of rfl) (.cond rfl fun h => h))) rfl rfl ?_
  refine TrL.stepS 47 (.plain rfl (.move rfl (.of rfl))) rfl rfl ?_
  refine TrL.stepS 48 (.guarded rfl rfl rfl fun hg => .move rfl (.of rfl)) rfl rfl ?_
  refine TrL.stepS 49 (.guarded rfl rfl rfl fun hg => .not rfl (.cond rfl hg)) rfl rfl ?_
  refine TrL.stepS 50 (.guarded rfl rfl rfl fun hg => .move rfl (.cond rfl hg)) rfl rfl ?_
  refine TrL.stepS 51 (.guarded2 rfl rfl rfl fun hp hg => .move rfl (.of rfl)) rfl rfl ?_
  refine TrL.stepS 52 (.guarded2 rfl rfl rfl fun hp hg => .neq rfl (.cond rfl ⟨hp, hg⟩) (.of rfl)) rfl rfl ?_
  refine TrL.stepS 53 (.guarded rfl rfl rfl fun hg => .and rfl (.cond rfl hg) (.cond rfl fun h => ⟨hg, h⟩)) rfl rfl ?_
  refine TrL.stepS 54 (.plain rfl (.or rfl (.of rfl) (.cond rfl fun h => h))) rfl rfl ?_
  refine TrL.stepS 55 (.plain rfl (.move rfl (.of rfl))) rfl rfl ?_
  refine TrL.stepS 56 (.guarded rfl rfl rfl fun hg => .loadBN 21 (k := 4) (ds := [_, _, _, _]) rfl (.of rfl) rfl rfl rfl T.ag122 rfl) rfl rfl ?_
  refine TrL.stepS 57 (.guarded rfl rfl rfl fun hg => .call rfl (F88 (aggOf xs)) (.cons (.cond rfl hg) .nil)) rfl rfl ?_
  refine TrL.stepS 58 (.guarded rfl rfl rfl fun hg => .move rfl (.of rfl)) rfl rfl ?_
  refine TrL.stepS 59 (.guarded rfl rfl rfl fun hg => .len rfl (.cond rfl hg) Try.underlying24) rfl rfl ?_
  refine TrL.stepS 60 (.guarded rfl rfl rfl fun hg => .eql rfl (.cond rfl hg) (.of rfl)) rfl rfl ?_
  refine TrL.stepS 61 (.guarded rfl rfl rfl fun hg => .move rfl (.cond rfl hg)) rfl rfl ?_
  refine TrL.stepS 62 (.guarded2 rfl rfl rfl fun hp hg => .move rfl (.of rfl)) rfl rfl ?_
  refine TrL.stepS 63 (.guarded2 rfl rfl rfl fun hp hg => .not rfl (.cond rfl ⟨hp, hg⟩)) rfl rfl ?_
  refine TrL.stepS 64 (.guarded rfl rfl rfl fun hg => .or rfl (.cond rfl hg) (.cond rfl fun h => ⟨hg, h⟩)) rfl rfl ?_
  refine TrL.stepS 65 (.guarded rfl rfl rfl fun hg => .neqB rfl (.cond rfl hg) (.cond rfl hg) Try.underlying4) rfl rfl ?_
  refine TrL.stepS 66 (.plain rfl (.or rfl (.of rfl) (.cond rfl fun h => h))) rfl rfl ?_
  refine TrL.stepS 67 (.plain rfl (.move rfl (.of rfl))) rfl rfl ?_
  refine TrL.stepS 68 (.guarded rfl rfl rfl fun hg => .loadBN 21 (k := 4) (ds := [_, _, _, _]) rfl (.of rfl) rfl rfl rfl T.ag122 rfl) rfl rfl ?_
  refine TrL.stepS 69 (.guarded rfl rfl rfl fun hg => .call rfl (F89 (aggOf xs)) (.cons (.cond rfl hg) .nil)) rfl rfl ?_
  refine TrL.stepS 70 (.guarded rfl rfl rfl fun hg => .not rfl (.cond rfl hg)) rfl rfl ?_
  refine TrL.stepS 71 (.plain rfl (.or rfl (.of rfl) (.cond rfl fun h => h))) rfl rfl ?_
  refine TrL.nil ?_
  refine Fin.keepG (Γ' := [(0, _), (1, _), (5, _), (6, _), (71, _)]) (.same rfl (.same rfl (.same rfl (.same rfl (.same rfl .nil))))) ?_
  refine Fin.next ?_
  refine Tr.cond rfl (fun hb0 => ?_) (fun hb0 => ?_)
  · try simp only [decide_eq_true_eq, decide_eq_false_iff_not, beq_iff_eq, beq_eq_false_iff_ne, bne_iff_ne, bne_eq_false_iff_eq, Bool.and_eq_true, Bool.and_eq_false_iff, Bool.or_eq_true, Bool.or_eq_false_iff, Bool.not_eq_true', Bool.not_eq_false', gt_iff_lt, ge_iff_le, Int.not_lt, Int.not_le, ne_eq, Int.natCast_nonneg, true_and, and_true, Decidable.not_not, not_true_eq_false, not_false_eq_true] at hb0
    exfalso; simp only [blank_agg, right_agg] at hb0; cases hf : fit xs.sum <;> by_cases he : xs = [] <;> simp [hf, he] at hb0; all_goals (subst he; simp [fit_zero] at hf)
  · try simp only [decide_eq_true_eq, decide_eq_false_iff_not, beq_iff_eq, beq_eq_false_iff_ne, bne_iff_ne, bne_eq_false_iff_eq, Bool.and_eq_true, Bool.and_eq_false_iff, Bool.or_eq_true, Bool.or_eq_false_iff, Bool.not_eq_true', Bool.not_eq_false', gt_iff_lt, ge_iff_le, Int.not_lt, Int.not_le, ne_eq, Int.natCast_nonneg, true_and, and_true, Decidable.not_not, not_true_eq_false, not_false_eq_true] at hb0
    refine Tr.skip ?_
    refine Fin.next ?_
    refine Tr.seq ?_
    refine Tr.region ?_
    refine TrL.allocS 22 (zs := [.int .i64 0, .int .i64 0, .int .i64 0, .int .i64 0]) rfl rfl (by kernel_rfl) 9 rfl rfl rfl fun b22 => ?_
    refine TrL.nil ?_
    refine Fin.keepG (Γ' := [(0, _), (1, _), (5, _), (6, _), (9, _)]) (.same rfl (.same rfl (.same rfl (.same rfl (.same rfl .nil))))) ?_
    refine Fin.next ?_
    refine Tr.seqJK (γ := Unit) (Γk := [(0, _), (1, _), (5, _), (6, _)]) (Mk := [(20, _), (21, _)]) (.same rfl (.same rfl (.same rfl (.same rfl .nil)))) (.same rfl (.same rfl .nil)) (fun _ => True) (fun _ => fun r => r) (fun _ => fun r => r) ?jx19 ?jk19
    case jx19 =>
      refine Tr.seq ?_
      refine Tr.region ?_
      refine TrL.stepS 72 (.plain rfl (.move rfl (.of rfl))) rfl rfl ?_
      refine TrL.stepS 73 (.plain rfl (.len rfl (.of rfl) Try.underlying24)) rfl rfl ?_
      refine TrL.stepS 74 (.plain rfl (.move rfl (.of rfl))) rfl rfl ?_
      refine TrL.nil ?_
      refine Fin.next ?_
      refine Tr.block ?_
      refine Tr.loopK (γ := Nat) (Γk := [(0, _), (1, _), (5, _), (6, _), (9, _), (72, _), (73, _)]) (Mk := [(20, _), (21, _)]) (.same rfl (.same rfl (.same rfl (.same rfl (.same rfl (.same rfl (.same rfl .nil))))))) (.same rfl (.same rfl .nil)) (fun k => k ≤ xs.length ∧ fit (xs.take k).sum = true) (fun k => fun r => (22, Blk b22 [.int .i64 (aggOf (xs.take k)).1, .int .i64 (aggOf (xs.take k)).2.1, .int .i64 (aggOf (xs.take k)).2.2.1, .int .i64 (aggOf (xs.take k)).2.2.2] 122) :: r) (fun k => fun r => (74, is (.int .i64 k)) :: r) (fun k => xs.length - k) (0) ?h0_0 ?hM_0 ?hG_0 ?hl_0
      case h0_0 => exact ⟨Nat.zero_le _, fit_zero⟩
      case hM_0 => exact (.same rfl (.same rfl (.same rfl .nil)))
      case hG_0 => exact (.eq rfl (by first | rfl | (congr 1; first | done | omega | (push_cast; omega) | (push_cast; rfl))) (.same rfl (.same rfl (.same rfl (.same rfl (.same rfl (.same rfl (.same rfl .nil))))))))
      case hl_0 =>
        intro k hI
        refine Tr.seq ?_
        refine Tr.region ?_
        refine TrL.stepS 75 (.plain rfl (.lss rfl (.of rfl) (.of rfl))) rfl rfl ?_
        refine TrL.nil ?_
        refine Fin.next ?_
        refine Tr.seq ?_
        refine Tr.cond rfl (fun hb1 => ?_) (fun hb1 => ?_)
        · try simp only [decide_eq_true_eq, decide_eq_false_iff_not, beq_iff_eq, beq_eq_false_iff_ne, bne_iff_ne, bne_eq_false_iff_eq, Bool.and_eq_true, Bool.and_eq_false_iff, Bool.or_eq_true, Bool.or_eq_false_iff, Bool.not_eq_true', Bool.not_eq_false', gt_iff_lt, ge_iff_le, Int.not_lt, Int.not_le, ne_eq, Int.natCast_nonneg, true_and, and_true, Decidable.not_not, not_true_eq_false, not_false_eq_true] at hb1
          obtain ⟨x, hx⟩ := ex_get (xs := xs) (i := k) (by omega)
          have hxb := hx0 x (List.mem_of_getElem? hx)
          have hkl : (xs.take k).length = k := by rw [List.length_take]; omega
          have hj := put_one (ys := xs.take k) (by omega) hxb hI.2
          have hk1 := take_snoc hx
          have hs1 := agg_sum hI.2
          refine Tr.skip ?_
          refine Fin.next ?_
          refine Tr.seq ?_
          refine Tr.block ?_
          refine Tr.seq ?_
          refine Tr.region ?_
          refine TrL.stepS 76 (.plain rfl (.move rfl (.of rfl))) rfl rfl ?_
          refine TrL.stepS 77 (.plain rfl (.indexE rfl (.of rfl) (.of rfl) Try.underlying24 T.sz2 (by omega) hx)) rfl rfl ?_
          refine TrL.stepS 78 (.plain rfl (.load1 rfl (.of rfl) T.sc2)) rfl rfl ?_
          refine TrL.stepS 10 (.plain rfl (.assign rfl (.of rfl))) rfl rfl ?_
          refine TrL.stepS 11 (.plain rfl (.assign rfl (.of rfl))) rfl rfl ?_
          refine TrL.nil ?_
          refine Fin.keepG (Γ' := [(0, _), (1, _), (5, _), (6, _), (9, _), (10, _), (11, _), (72, _), (73, _), (74, _)]) (.same rfl (.same rfl (.same rfl (.same rfl (.same rfl (.same rfl (.same rfl (.same rfl (.same rfl (.same rfl .nil)))))))))) ?_
          refine Fin.next ?_
          refine Tr.seq ?_
          refine Tr.region ?_
          refine TrL.stepS 80 (.plain rfl (.loadBN 22 (k := 4) (ds := [_, _, _, _]) rfl (.of rfl) rfl rfl rfl T.ag122 rfl)) rfl rfl ?_
          refine TrL.stepS 81 (.plain rfl (.move rfl (.of rfl))) rfl rfl ?_
          refine TrL.stepS 82 (.plain rfl (.call rfl (F80 (aggOf (xs.take k)) x (okA_agg _ (by rw [List.length_take]; omega)) hxb) (.cons (.of rfl) (.cons (.of rfl) .nil)))) rfl rfl ?_
          refine TrL.stepS 79 (.plain rfl (.move rfl (.of rfl))) rfl rfl ?_
          refine TrL.stepS 83 (.plain rfl (.extract rfl (.of rfl) rfl)) rfl rfl ?_
          refine TrL.stepS 84 (.plain rfl (.extract rfl (.of rfl) rfl)) rfl rfl ?_
          refine TrL.allocS 23 (zs := [.int .i64 0, .int .i64 0, .int .i64 0, .int .i64 0]) rfl rfl (by kernel_rfl) 12 rfl rfl rfl fun b23 => ?_
          refine TrL.storeW 23 (vs := [_, _, _, _]) rfl rfl rfl (.of rfl) (.of rfl) rfl rfl T.sz122 rfl rfl ?_
          refine TrL.stepS 13 (.plain rfl (.assign rfl (.of rfl))) rfl rfl ?_
          refine TrL.nil ?_
          refine Fin.keepG (Γ' := [(0, _), (1, _), (5, _), (6, _), (9, _), (10, _), (11, _), (12, _), (13, _), (72, _), (73, _), (74, _)]) (.same rfl (.same rfl (.same rfl (.same rfl (.same rfl (.same rfl (.same rfl (.same rfl (.same rfl (.same rfl (.same rfl (.same rfl .nil)))))))))))) ?_
          refine Fin.next ?_
          refine Tr.seq ?_
          refine Tr.region ?_
          refine TrL.sliceOwn 24 (K := (intR .i64)) (xs := []) rfl rfl 86 rfl rfl .nil Try.underlying24 T.sz2 T.zb2 rfl (by decide) rfl fun v86 hv86 => ?_
          refine TrL.stepS 87 (.plain rfl (.move rfl (.of rfl))) rfl rfl ?_
          refine TrL.stepS 88 (.plain rfl (.move rfl (.of rfl))) rfl rfl ?_
          first | refine TrL.stepS 89 (.plain rfl (.addI L.bd_i64 rfl (.of rfl) (.of rfl) (by omega) (by omega))) rfl rfl ?_ | refine TrL.stepS 89 (.plain rfl (.add rfl (.of rfl) (.of rfl))) rfl rfl ?_
          refine TrL.stepS 90 (.plain rfl (.sliceTo rfl (.of rfl) (.of rfl) Try.underlying24 T.sz2 (by omega) (by omega))) rfl rfl ?_
          refine TrL.appendS 24 (bytes := 8) rfl rfl 91 rfl rfl (.of rfl) rfl rfl (.of rfl) Try.underlying24 T.el2 (by rw [List.length_take]; omega) (by simp; omega) (by simp only [maxLen, List.length_append, List.length_cons, List.length_nil, List.length_map, List.length_take]; omega) fun v91 => ?_
          refine TrL.freezeF 24 (R := Lst (intR .i64) (xs.take (k + 1))) rfl (fun F L w h => Own.lst h) rfl ?_
          refine TrL.stepS 92 (.plain rfl (.call rfl (F87 (xs.take (k + 1)) (by rw [List.length_take]; omega) (fun y hy => hx0 y (List.mem_of_mem_take hy))) (.cons (.fact 24 rfl rfl rfl) .nil))) rfl rfl ?_
          refine TrL.stepS 85 (.plain rfl (.move rfl (.of rfl))) rfl rfl ?_
          refine TrL.stepS 93 (.plain rfl (.extract rfl (.of rfl) rfl)) rfl rfl ?_
          refine TrL.stepS 94 (.plain rfl (.extract rfl (.of rfl) rfl)) rfl rfl ?_
          refine TrL.allocS 25 (zs := [.int .i64 0, .int .i64 0, .int .i64 0, .int .i64 0]) rfl rfl (by kernel_rfl) 14 rfl rfl rfl fun b25 => ?_
          refine TrL.storeW 25 (vs := [_, _, _, _]) rfl rfl rfl (.of rfl) (.of rfl) rfl rfl T.sz122 rfl rfl ?_
          refine TrL.stepS 15 (.plain rfl (.assign rfl (.of rfl))) rfl rfl ?_
          refine TrL.nil ?_
          refine Fin.keepG (Γ' := [(0, _), (1, _), (5, _), (6, _), (9, _), (11, _), (12, _), (13, _), (14, _), (15, _), (72, _), (73, _), (74, _)]) (.same rfl (.same rfl (.same rfl (.same rfl (.same rfl (.same rfl (.same rfl (.same rfl (.same rfl (.same rfl (.same rfl (.same rfl (.same rfl .nil))))))))))))) ?_
          refine Fin.next ?_
          refine Tr.seq ?_
          refine Tr.seq ?_
          refine Tr.region ?_
          refine TrL.stepS 96 (.plain rfl (.fieldP rfl (.of rfl) T.fl122_1)) rfl rfl ?_
          refine TrL.stepS 97 (.plain rfl (.loadB 22 rfl (.of rfl) rfl rfl rfl T.sc2)) rfl rfl ?_
          refine TrL.stepS 98 (.plain rfl (.move rfl (.of rfl))) rfl rfl ?_
          refine TrL.stepS 99 (.plain rfl (.slice (K := (intR .i64)) (xs := [_, _]) rfl (.cons (.map (.of rfl) (intR_elem _)) (.cons (.map (.of rfl) (intR_elem _)) .nil)) Try.underlying24 T.sz2 T.zb2 rfl (by decide))) rfl rfl ?_
          refine TrL.stepS 100 (.plain rfl (.call rfl (F82 [(aggOf (xs.take k)).2.1, x] (by simp) (by rw [agg_sum hI.2]; simp; exact ⟨fit_iff.1 hI.2, hxb⟩)) (.cons (.of rfl) .nil))) rfl rfl ?_
          refine TrL.stepS 95 (.plain rfl (.move rfl (.of rfl))) rfl rfl ?_
          refine TrL.stepS 101 (.plain rfl (.extract rfl (.of rfl) rfl)) rfl rfl ?_
          refine TrL.stepS 102 (.plain rfl (.extract rfl (.of rfl) rfl)) rfl rfl ?_
          refine TrL.stepS 16 (.plain rfl (.assign rfl (.of rfl))) rfl rfl ?_
          refine TrL.stepS 17 (.plain rfl (.assign rfl (.of rfl))) rfl rfl ?_
          refine TrL.nil ?_
          refine Fin.keepG (Γ' := [(0, _), (1, _), (5, _), (6, _), (9, _), (11, _), (12, _), (13, _), (14, _), (15, _), (16, _), (17, _), (72, _), (73, _), (74, _)]) (.same rfl (.same rfl (.same rfl (.same rfl (.same rfl (.same rfl (.same rfl (.same rfl (.same rfl (.same rfl (.same rfl (.same rfl (.same rfl (.same rfl (.same rfl .nil))))))))))))))) ?_
          refine Fin.next ?_
          refine Tr.seq ?_
          refine Tr.region ?_
          refine TrL.stepS 103 (.plain rfl (.move rfl (.of rfl))) rfl rfl ?_
          refine TrL.stepS 104 (.plain rfl (.not rfl (.of rfl))) rfl rfl ?_
          refine TrL.nil ?_
          refine Fin.keepG (Γ' := [(0, _), (1, _), (5, _), (6, _), (9, _), (11, _), (12, _), (13, _), (14, _), (15, _), (16, _), (72, _), (73, _), (74, _), (104, _)]) (.same rfl (.same rfl (.same rfl (.same rfl (.same rfl (.same rfl (.same rfl (.same rfl (.same rfl (.same rfl (.same rfl (.same rfl (.same rfl (.same rfl (.same rfl .nil))))))))))))))) ?_
          refine Fin.next ?_
          refine Tr.cond rfl (fun hb2 => ?_) (fun hb2 => ?_)
          · try simp only [decide_eq_true_eq, decide_eq_false_iff_not, beq_iff_eq, beq_eq_false_iff_ne, bne_iff_ne, bne_eq_false_iff_eq, Bool.and_eq_true, Bool.and_eq_false_iff, Bool.or_eq_true, Bool.or_eq_false_iff, Bool.not_eq_true', Bool.not_eq_false', gt_iff_lt, ge_iff_le, Int.not_lt, Int.not_le, ne_eq, Int.natCast_nonneg, true_and, and_true, Decidable.not_not, not_true_eq_false, not_false_eq_true] at hb2
            have hnf : fit ((xs.take k).sum + x) = false := by simpa [hs1] using hb2
            have hjE : joinE [aggOf (xs.take k), (1, x, x, x)] = false := by rw [hj.1]; exact hnf
            refine Tr.seq ?_
            refine Tr.seq ?_
            refine Tr.region ?_
            refine TrL.stepS 105 (.plain rfl (.move rfl (.of rfl))) rfl rfl ?_
            refine TrL.stepS 106 (.plain rfl (.neq rfl (.of rfl) (.of rfl))) rfl rfl ?_
            refine TrL.stepS 107 (.plain rfl (.move rfl (.of rfl))) rfl rfl ?_
            refine TrL.stepS 108 (.guarded rfl rfl rfl fun hg => .loadBN 23 (k := 4) (ds := [_, _, _, _]) rfl (.of rfl) rfl rfl rfl T.ag122 rfl) rfl rfl ?_
            refine TrL.stepS 109 (.guarded rfl rfl rfl fun hg => .loadBN 22 (k := 4) (ds := [_, _, _, _]) rfl (.of rfl) rfl rfl rfl T.ag122 rfl) rfl rfl ?_
            refine TrL.stepS 110 (.guarded rfl rfl rfl fun hg => .neqS rfl (.cond rfl hg) (.cond rfl hg) (by kernel_rfl) (T.eq122 _ _ _ _ _ _ _ _)) rfl rfl ?_
            refine TrL.stepS 111 (.plain rfl (.or rfl (.of rfl) (.cond rfl fun h => h))) rfl rfl ?_
            refine TrL.nil ?_
            refine Fin.keepG (Γ' := [(0, _), (1, _), (5, _), (6, _), (111, _)]) (.same rfl (.same rfl (.same rfl (.same rfl (.same rfl .nil))))) ?_
            refine Fin.next ?_
            refine Tr.cond rfl (fun hb3 => ?_) (fun hb3 => ?_)
            · try simp only [decide_eq_true_eq, decide_eq_false_iff_not, beq_iff_eq, beq_eq_false_iff_ne, bne_iff_ne, bne_eq_false_iff_eq, Bool.and_eq_true, Bool.and_eq_false_iff, Bool.or_eq_true, Bool.or_eq_false_iff, Bool.not_eq_true', Bool.not_eq_false', gt_iff_lt, ge_iff_le, Int.not_lt, Int.not_le, ne_eq, Int.natCast_nonneg, true_and, and_true, Decidable.not_not, not_true_eq_false, not_false_eq_true] at hb3
              exfalso; simp [hjE] at hb3
            · try simp only [decide_eq_true_eq, decide_eq_false_iff_not, beq_iff_eq, beq_eq_false_iff_ne, bne_iff_ne, bne_eq_false_iff_eq, Bool.and_eq_true, Bool.and_eq_false_iff, Bool.or_eq_true, Bool.or_eq_false_iff, Bool.not_eq_true', Bool.not_eq_false', gt_iff_lt, ge_iff_le, Int.not_lt, Int.not_le, ne_eq, Int.natCast_nonneg, true_and, and_true, Decidable.not_not, not_true_eq_false, not_false_eq_true] at hb3
              refine Tr.skip ?_
              refine Fin.next ?_
              refine Tr.exit ?_
              refine Fin.thenExit ?_
              refine Fin.blockPast rfl ?_
              refine Fin.thenExit ?_
              refine Fin.thenExit ?_
              refine Fin.blockOut ?_
              exact Fin.reach (()) (trivial) (.same rfl (.same rfl .nil)) (.same rfl (.same rfl (.same rfl (.same rfl .nil))))
          · try simp only [decide_eq_true_eq, decide_eq_false_iff_not, beq_iff_eq, beq_eq_false_iff_ne, bne_iff_ne, bne_eq_false_iff_eq, Bool.and_eq_true, Bool.and_eq_false_iff, Bool.or_eq_true, Bool.or_eq_false_iff, Bool.not_eq_true', Bool.not_eq_false', gt_iff_lt, ge_iff_le, Int.not_lt, Int.not_le, ne_eq, Int.natCast_nonneg, true_and, and_true, Decidable.not_not, not_true_eq_false, not_false_eq_true] at hb2
            have hf1 : fit ((xs.take k).sum + x) = true := by simpa [hs1] using hb2
            have hjE : joinE [aggOf (xs.take k), (1, x, x, x)] = true := by rw [hj.1]; exact hf1
            have hjO := hj.2 hf1
            have hk2 : fit ((xs.take k ++ [x]).sum) = true := by rw [List.sum_append]; simpa using hf1
            refine Tr.seq ?_
            refine Tr.region ?_
            refine TrL.stepS 112 (.plain rfl (.move rfl (.of rfl))) rfl rfl ?_
            refine TrL.stepS 113 (.plain rfl (.neq rfl (.of rfl) (.of rfl))) rfl rfl ?_
            refine TrL.stepS 114 (.plain rfl (.move rfl (.of rfl))) rfl rfl ?_
            refine TrL.stepS 115 (.guarded rfl rfl rfl fun hg => .move rfl (.of rfl)) rfl rfl ?_
            refine TrL.stepS 116 (.guarded rfl rfl rfl fun hg => .not rfl (.cond rfl hg)) rfl rfl ?_
            refine TrL.stepS 117 (.plain rfl (.or rfl (.of rfl) (.cond rfl fun h => h))) rfl rfl ?_
            refine TrL.stepS 118 (.plain rfl (.move rfl (.of rfl))) rfl rfl ?_
            refine TrL.stepS 119 (.guarded rfl rfl rfl fun hg => .fieldP rfl (.of rfl) T.fl122_1) rfl rfl ?_
            refine TrL.stepS 120 (.guarded rfl rfl rfl fun hg => .loadB 25 rfl (.cond rfl hg) rfl rfl rfl T.sc2) rfl rfl ?_
            refine TrL.stepS 121 (.guarded rfl rfl rfl fun hg => .move rfl (.of rfl)) rfl rfl ?_
            refine TrL.stepS 122 (.guarded rfl rfl rfl fun hg => .neq rfl (.cond rfl hg) (.cond rfl hg)) rfl rfl ?_
            refine TrL.stepS 123 (.plain rfl (.or rfl (.of rfl) (.cond rfl fun h => h))) rfl rfl ?_
            refine TrL.stepS 124 (.plain rfl (.move rfl (.of rfl))) rfl rfl ?_
            refine TrL.stepS 125 (.guarded rfl rfl rfl fun hg => .loadBN 23 (k := 4) (ds := [_, _, _, _]) rfl (.of rfl) rfl rfl rfl T.ag122 rfl) rfl rfl ?_
            refine TrL.stepS 126 (.guarded rfl rfl rfl fun hg => .loadBN 25 (k := 4) (ds := [_, _, _, _]) rfl (.of rfl) rfl rfl rfl T.ag122 rfl) rfl rfl ?_
            refine TrL.stepS 127 (.guarded rfl rfl rfl fun hg => .neqS rfl (.cond rfl hg) (.cond rfl hg) (by kernel_rfl) (T.eq122 _ _ _ _ _ _ _ _)) rfl rfl ?_
            refine TrL.stepS 128 (.plain rfl (.or rfl (.of rfl) (.cond rfl fun h => h))) rfl rfl ?_
            refine TrL.stepS 129 (.plain rfl (.move rfl (.of rfl))) rfl rfl ?_
            refine TrL.stepS 130 (.guarded rfl rfl rfl fun hg => .loadBN 23 (k := 4) (ds := [_, _, _, _]) rfl (.of rfl) rfl rfl rfl T.ag122 rfl) rfl rfl ?_
            refine TrL.stepS 131 (.guarded rfl rfl rfl fun hg => .call rfl (F89 (if joinE [aggOf (xs.take k), (1, x, x, x)] = true then joinOf [aggOf (xs.take k), (1, x, x, x)] else aggOf (xs.take k))) (.cons (.cond rfl hg) .nil)) rfl rfl ?_
            refine TrL.stepS 132 (.guarded rfl rfl rfl fun hg => .not rfl (.cond rfl hg)) rfl rfl ?_
            refine TrL.stepS 133 (.plain rfl (.or rfl (.of rfl) (.cond rfl fun h => h))) rfl rfl ?_
            refine TrL.stepS 134 (.plain rfl (.move rfl (.of rfl))) rfl rfl ?_
            refine TrL.stepS 135 (.guarded rfl rfl rfl fun hg => .move rfl (.of rfl)) rfl rfl ?_
            refine TrL.stepS 136 (.guarded rfl rfl rfl fun hg => .call rfl (F79 x) (.cons (.cond rfl hg) .nil)) rfl rfl ?_
            refine TrL.stepS 137 (.guarded rfl rfl rfl fun hg => .move rfl (.of rfl)) rfl rfl ?_
            refine TrL.stepS 138 (.guarded rfl rfl rfl fun hg => .move rfl (.of rfl)) rfl rfl ?_
            refine TrL.stepS 139 (.guarded rfl rfl rfl fun hg => .move rfl (.of rfl)) rfl rfl ?_
            refine TrL.stepS 140 (.guarded rfl rfl rfl fun hg => .build rfl (.cons (.of rfl) (.cons (.cond rfl hg) (.cons (.cond rfl hg) (.cons (.cond rfl hg) .nil)))) (T.S6bd122_0_1_2_3 _ _ _ _)) rfl rfl ?_
            refine TrL.stepS 141 (.guarded rfl rfl rfl fun hg => .neqS rfl (.cond rfl hg) (.cond rfl hg) (by kernel_rfl) (T.eq122 _ _ _ _ _ _ _ _)) rfl rfl ?_
            refine TrL.stepS 142 (.plain rfl (.or rfl (.of rfl) (.cond rfl fun h => h))) rfl rfl ?_
            refine TrL.nil ?_
            refine Fin.keepG (Γ' := [(0, _), (1, _), (5, _), (6, _), (9, _), (12, _), (72, _), (73, _), (74, _), (142, _)]) (.same rfl (.same rfl (.same rfl (.same rfl (.same rfl (.same rfl (.same rfl (.same rfl (.same rfl (.same rfl .nil)))))))))) ?_
            refine Fin.next ?_
            refine Tr.cond rfl (fun hb4 => ?_) (fun hb4 => ?_)
            · try simp only [decide_eq_true_eq, decide_eq_false_iff_not, beq_iff_eq, beq_eq_false_iff_ne, bne_iff_ne, bne_eq_false_iff_eq, Bool.and_eq_true, Bool.and_eq_false_iff, Bool.or_eq_true, Bool.or_eq_false_iff, Bool.not_eq_true', Bool.not_eq_false', gt_iff_lt, ge_iff_le, Int.not_lt, Int.not_le, ne_eq, Int.natCast_nonneg, true_and, and_true, Decidable.not_not, not_true_eq_false, not_false_eq_true] at hb4
              exfalso; rw [hk1] at hb4; simp [hjE, hjO, right_agg, agg_sum hk2, hk2, hs1, cl, hf1] at hb4
            · try simp only [decide_eq_true_eq, decide_eq_false_iff_not, beq_iff_eq, beq_eq_false_iff_ne, bne_iff_ne, bne_eq_false_iff_eq, Bool.and_eq_true, Bool.and_eq_false_iff, Bool.or_eq_true, Bool.or_eq_false_iff, Bool.not_eq_true', Bool.not_eq_false', gt_iff_lt, ge_iff_le, Int.not_lt, Int.not_le, ne_eq, Int.natCast_nonneg, true_and, and_true, Decidable.not_not, not_true_eq_false, not_false_eq_true] at hb4
              refine Tr.skip ?_
              refine Fin.next ?_
              refine Tr.region ?_
              refine TrL.stepS 143 (.plain rfl (.loadBN 23 (k := 4) (ds := [_, _, _, _]) rfl (.of rfl) rfl rfl rfl T.ag122 rfl)) rfl rfl ?_
              refine TrL.storeW 22 (vs := [_, _, _, _]) rfl rfl rfl (.of rfl) (.of rfl) rfl rfl T.sz122 rfl rfl ?_
              refine TrL.nil ?_
              refine Fin.keepG (Γ' := [(0, _), (1, _), (5, _), (6, _), (9, _), (72, _), (73, _), (74, _)]) (.same rfl (.same rfl (.same rfl (.same rfl (.same rfl (.same rfl (.same rfl (.same rfl .nil)))))))) ?_
              refine Fin.blockNormal ?_
              refine Fin.next ?_
              refine Tr.region ?_
              first | refine TrL.stepS 144 (.plain rfl (.addI L.bd_i64 rfl (.of rfl) (.of rfl) (by omega) (by omega))) rfl rfl ?_ | refine TrL.stepS 144 (.plain rfl (.add rfl (.of rfl) (.of rfl))) rfl rfl ?_
              refine TrL.stepS 74 (.plain rfl (.move rfl (.of rfl))) rfl rfl ?_
              refine TrL.nil ?_
              refine Fin.keepG (Γ' := [(0, _), (1, _), (5, _), (6, _), (9, _), (72, _), (73, _), (74, _)]) (.same rfl (.same rfl (.same rfl (.same rfl (.same rfl (.same rfl (.same rfl (.same rfl .nil)))))))) ?_
              exact Fin.again (k + 1) (⟨by omega, by rw [hk1]; exact hk2⟩) (by omega) (.cons rfl (fun F L w h => by rw [hj.1, hj.2 hf1, if_pos hf1] at h; rw [hk1]; exact h) (.same rfl (.same rfl .nil))) (.eq rfl (by first | rfl | (congr 1; first | done | omega | (push_cast; omega) | (push_cast; rfl))) (.same rfl (.same rfl (.same rfl (.same rfl (.same rfl (.same rfl (.same rfl .nil))))))))
        · try simp only [decide_eq_true_eq, decide_eq_false_iff_not, beq_iff_eq, beq_eq_false_iff_ne, bne_iff_ne, bne_eq_false_iff_eq, Bool.and_eq_true, Bool.and_eq_false_iff, Bool.or_eq_true, Bool.or_eq_false_iff, Bool.not_eq_true', Bool.not_eq_false', gt_iff_lt, ge_iff_le, Int.not_lt, Int.not_le, ne_eq, Int.natCast_nonneg, true_and, and_true, Decidable.not_not, not_true_eq_false, not_false_eq_true] at hb1
          refine Tr.exit ?_
          refine Fin.thenExit ?_
          refine Fin.thenExit ?_
          refine Fin.blockOut ?_
          exact Fin.reach (()) (trivial) (.same rfl (.same rfl .nil)) (.same rfl (.same rfl (.same rfl (.same rfl .nil))))
    case jk19 =>
      intro _ _
      refine Tr.seq ?_
      refine Tr.region ?_
      refine TrL.allocR 28 (zs := [.slice none 0 0, .slice none 0 0, .slice none 0 0]) rfl rfl (by kernel_rfl) 18 rfl rfl rfl fun b28 => ?_
      refine TrL.nil ?_
      refine Fin.next ?_
      refine Tr.seq ?_
      refine Tr.seq ?_
      refine Tr.own0 40 (intR .i64) 2 rfl ?_
      refine Tr.own0 41 (intR .i64) 2 rfl ?_
      refine Tr.own0 42 (intR .i64) 2 rfl ?_
      refine Tr.region ?_
      refine TrL.stepS 145 (.plain rfl (.move rfl (.of rfl))) rfl rfl ?_
      refine TrL.stepS 146 (.plain rfl (.len rfl (.of rfl) Try.underlying24)) rfl rfl ?_
      refine TrL.stepS 147 (.plain rfl (.move rfl (.of rfl))) rfl rfl ?_
      refine TrL.nil ?_
      refine Fin.keepG (Γ' := [(1, _), (5, _), (6, _), (18, _), (145, _), (146, _), (147, _)]) (.same rfl (.same rfl (.same rfl (.same rfl (.same rfl (.same rfl (.same rfl .nil))))))) ?_
      refine Fin.next ?_
      refine Tr.block ?_
      refine Tr.loopK (γ := Nat × Value × Value × Value × List Int × List Int × List Int) (Γk := [(1, _), (5, _), (6, _), (18, _), (145, _), (146, _)]) (Mk := [(20, _), (21, _)]) (.same rfl (.same rfl (.same rfl (.same rfl (.same rfl (.same rfl .nil)))))) (.same rfl (.same rfl .nil)) (fun p => p.1 ≤ xs.length ∧ (p.2.2.2.2.1 ++ p.2.2.2.2.2.1 ++ p.2.2.2.2.2.2).Perm (xs.take p.1)) (fun p => fun r => (40, Own (intR .i64) 2 p.2.1 p.2.2.2.2.1) :: (41, Own (intR .i64) 2 p.2.2.1 p.2.2.2.2.2.1) :: (42, Own (intR .i64) 2 p.2.2.2.1 p.2.2.2.2.2.2) :: (28, BlkR b28 [is p.2.1, is p.2.2.1, is p.2.2.2.1] 136) :: r) (fun p => fun r => (147, is (.int .i64 p.1)) :: r) (fun p => xs.length - p.1) ((0, .slice none 0 0, .slice none 0 0, .slice none 0 0, [], [], [])) ?h0_1 ?hM_1 ?hG_1 ?hl_1
      case h0_1 => exact ⟨Nat.zero_le _, by simp⟩
      case hM_1 => exact (.same rfl (.same rfl (.same rfl (.same rfl (.same rfl (.same rfl .nil))))))
      case hG_1 => exact (.eq rfl (by first | rfl | (congr 1; first | done | omega | (push_cast; omega) | (push_cast; rfl))) (.same rfl (.same rfl (.same rfl (.same rfl (.same rfl (.same rfl .nil)))))))
      case hl_1 =>
        intro p hI
        obtain ⟨k, g0, g1, g2, l0, l1, l2⟩ := p
        dsimp only at hI ⊢
        have hlen := hI.2.length_eq
        simp only [List.length_append, List.length_take] at hlen
        refine Tr.seq ?_
        refine Tr.region ?_
        refine TrL.stepS 148 (.plain rfl (.lss rfl (.of rfl) (.of rfl))) rfl rfl ?_
        refine TrL.nil ?_
        refine Fin.next ?_
        refine Tr.seq ?_
        refine Tr.cond rfl (fun hb5 => ?_) (fun hb5 => ?_)
        · try simp only [decide_eq_true_eq, decide_eq_false_iff_not, beq_iff_eq, beq_eq_false_iff_ne, bne_iff_ne, bne_eq_false_iff_eq, Bool.and_eq_true, Bool.and_eq_false_iff, Bool.or_eq_true, Bool.or_eq_false_iff, Bool.not_eq_true', Bool.not_eq_false', gt_iff_lt, ge_iff_le, Int.not_lt, Int.not_le, ne_eq, Int.natCast_nonneg, true_and, and_true, Decidable.not_not, not_true_eq_false, not_false_eq_true] at hb5
          obtain ⟨x, hx⟩ := ex_get (xs := xs) (i := k) (by omega)
          have hxb := hx0 x (List.mem_of_getElem? hx)
          refine Tr.skip ?_
          refine Fin.next ?_
          refine Tr.seq ?_
          refine Tr.block ?_
          refine Tr.seq ?_
          refine Tr.region ?_
          refine TrL.stepS 149 (.plain rfl (.move rfl (.of rfl))) rfl rfl ?_
          refine TrL.stepS 150 (.plain rfl (.indexE rfl (.of rfl) (.of rfl) Try.underlying24 T.sz2 (by omega) hx)) rfl rfl ?_
          refine TrL.stepS 151 (.plain rfl (.load1 rfl (.of rfl) T.sc2)) rfl rfl ?_
          refine TrL.stepS 19 (.plain rfl (.assign rfl (.of rfl))) rfl rfl ?_
          refine TrL.stepS 20 (.plain rfl (.assign rfl (.of rfl))) rfl rfl ?_
          refine TrL.nil ?_
          refine Fin.keepG (Γ' := [(1, _), (5, _), (6, _), (18, _), (19, _), (20, _), (145, _), (146, _), (147, _)]) (.same rfl (.same rfl (.same rfl (.same rfl (.same rfl (.same rfl (.same rfl (.same rfl (.same rfl .nil))))))))) ?_
          refine Fin.next ?_
          refine Tr.seq ?_
          refine Tr.region ?_
          refine TrL.stepS 21 (.plain rfl (.assign rfl (.of rfl))) rfl rfl ?_
          refine TrL.nil ?_
          refine Fin.next ?_
          refine Tr.seqJK (γ := Nat) (Γk := [(1, _), (5, _), (6, _), (18, _), (20, _), (145, _), (146, _), (147, _)]) (Mk := [(20, _), (21, _), (40, _), (41, _), (42, _), (28, _)]) (.same rfl (.same rfl (.same rfl (.same rfl (.same rfl (.same rfl (.same rfl (.same rfl .nil)))))))) (.same rfl (.same rfl (.same rfl (.same rfl (.same rfl (.same rfl .nil)))))) (fun q => q < 3) (fun q => fun r => r) (fun q => fun r => (21, is (.int .i64 (q : Int))) :: r) ?jx26 ?jk26
          case jx26 =>
            refine Tr.seq ?_
            refine Tr.region ?_
            refine TrL.stepS 152 (.plain rfl (.move rfl (.of rfl))) rfl rfl ?_
            refine TrL.stepS 153 (.plain rfl (.len rfl (.of rfl) Try.underlying46)) rfl rfl ?_
            refine TrL.stepS 154 (.plain rfl (.gtr rfl (.of rfl) (.of rfl))) rfl rfl ?_
            refine TrL.nil ?_
            refine Fin.keepG (Γ' := [(1, _), (5, _), (6, _), (18, _), (19, _), (20, _), (21, _), (145, _), (146, _), (147, _), (154, _)]) (.same rfl (.same rfl (.same rfl (.same rfl (.same rfl (.same rfl (.same rfl (.same rfl (.same rfl (.same rfl (.same rfl .nil))))))))))) ?_
            refine Fin.next ?_
            refine Tr.cond rfl (fun hb6 => ?_) (fun hb6 => ?_)
            · try simp only [decide_eq_true_eq, decide_eq_false_iff_not, beq_iff_eq, beq_eq_false_iff_ne, bne_iff_ne, bne_eq_false_iff_eq, Bool.and_eq_true, Bool.and_eq_false_iff, Bool.or_eq_true, Bool.or_eq_false_iff, Bool.not_eq_true', Bool.not_eq_false', gt_iff_lt, ge_iff_le, Int.not_lt, Int.not_le, ne_eq, Int.natCast_nonneg, true_and, and_true, Decidable.not_not, not_true_eq_false, not_false_eq_true] at hb6
              have hp1 : 0 < ps.length := by omega
              obtain ⟨p, hp⟩ := ex_get (xs := ps) (i := k % ps.length) (Nat.mod_lt _ hp1)
              have hpb := hp0 p (List.mem_of_getElem? hp)
              refine Tr.region ?_
              refine TrL.stepS 155 (.plain rfl (.move rfl (.of rfl))) rfl rfl ?_
              refine TrL.stepS 156 (.plain rfl (.move rfl (.of rfl))) rfl rfl ?_
              refine TrL.stepS 157 (.plain rfl (.move rfl (.of rfl))) rfl rfl ?_
              refine TrL.stepS 158 (.plain rfl (.len rfl (.of rfl) Try.underlying46)) rfl rfl ?_
              refine TrL.stepS 159 (.plain rfl (OpM.eqI (n := ((k % ps.length : Nat) : Int)) (.rem rfl (.of rfl) (.of rfl) (by omega)) rfl)) rfl rfl ?_
              refine TrL.stepS 160 (.plain rfl (.indexE rfl (.of rfl) (.of rfl) Try.underlying46 T.sz5 (by omega) hp)) rfl rfl ?_
              refine TrL.stepS 161 (.plain rfl (.load1 rfl (.of rfl) T.sc5)) rfl rfl ?_
              first | refine TrL.stepS 162 (.plain rfl (.convI L.bd_i64 rfl (.of rfl) T.us5 Try.underlying3 (by omega) (by omega))) rfl rfl ?_ | refine TrL.stepS 162 (.plain rfl (.conv rfl (.of rfl) T.us5 Try.underlying3)) rfl rfl ?_
              refine TrL.stepS 163 (.plain rfl (OpM.eqI (n := p % 3) (.rem rfl (.of rfl) (.of rfl) (by decide)) (Int.tmod_eq_emod_of_nonneg hpb.1))) rfl rfl ?_
              refine TrL.stepS 21 (.plain rfl (.assign rfl (.of rfl))) rfl rfl ?_
              refine TrL.nil ?_
              refine Fin.keepG (Γ' := [(1, _), (5, _), (6, _), (18, _), (20, _), (21, _), (145, _), (146, _), (147, _)]) (.same rfl (.same rfl (.same rfl (.same rfl (.same rfl (.same rfl (.same rfl (.same rfl (.same rfl .nil))))))))) ?_
              exact Fin.reach ((p % 3).toNat) (by omega) (.same rfl (.same rfl (.same rfl (.same rfl (.same rfl (.same rfl .nil)))))) (.eq rfl (by congr 1; omega) (.same rfl (.same rfl (.same rfl (.same rfl (.same rfl (.same rfl (.same rfl (.same rfl .nil)))))))))
            · try simp only [decide_eq_true_eq, decide_eq_false_iff_not, beq_iff_eq, beq_eq_false_iff_ne, bne_iff_ne, bne_eq_false_iff_eq, Bool.and_eq_true, Bool.and_eq_false_iff, Bool.or_eq_true, Bool.or_eq_false_iff, Bool.not_eq_true', Bool.not_eq_false', gt_iff_lt, ge_iff_le, Int.not_lt, Int.not_le, ne_eq, Int.natCast_nonneg, true_and, and_true, Decidable.not_not, not_true_eq_false, not_false_eq_true] at hb6
              refine Tr.skip ?_
              exact Fin.reach (0) (by omega) (.same rfl (.same rfl (.same rfl (.same rfl (.same rfl (.same rfl .nil)))))) (.eq rfl (by rfl) (.same rfl (.same rfl (.same rfl (.same rfl (.same rfl (.same rfl (.same rfl (.same rfl .nil)))))))))
          case jk26 =>
            intro q hq
            obtain rfl | rfl | rfl : q = 0 ∨ q = 1 ∨ q = 2 := by omega
            ·
              refine Tr.region ?_
              refine TrL.stepS 164 (.plain rfl (.move rfl (.of rfl))) rfl rfl ?_
              refine TrL.stepS 165 (.plain rfl (.move rfl (.of rfl))) rfl rfl ?_
              refine TrL.stepS 166 (.plain rfl (.indexArrP rfl (.of rfl) (.of rfl) Try.underlying136 T.sz24 (by omega) (by omega))) rfl rfl ?_
              refine TrL.stepS 167 (.plain rfl (.loadR 28 rfl (.of rfl) rfl rfl rfl T.sc24)) rfl rfl ?_
              refine TrL.stepS 168 (.plain rfl (.move rfl (.of rfl))) rfl rfl ?_
              refine TrL.stepS 169 (.plain rfl (.slice (K := (intR .i64)) (xs := [_]) rfl (.cons (.map (.of rfl) (intR_elem _)) .nil) Try.underlying24 T.sz2 T.zb2 rfl (by decide))) rfl rfl ?_
              refine TrL.appendS 40 (bytes := 8) rfl rfl 170 rfl rfl (.of rfl) rfl rfl (.of rfl) Try.underlying24 T.el2 (by simp) (by simp; omega) (by simp only [maxLen, List.length_append, List.length_cons, List.length_nil, List.length_map, List.length_take]; omega) fun v170 => ?_
              refine TrL.stepS 171 (.plain rfl (.indexArrP rfl (.of rfl) (.of rfl) Try.underlying136 T.sz24 (by omega) (by omega))) rfl rfl ?_
              refine TrL.memP 40 rfl rfl own_form fun hf => ?_
              refine TrL.storeR1 28 rfl rfl rfl (.of rfl) (.of rfl) rfl rfl (L.h1sl hf) T.sz24 rfl ?_
              refine TrL.nil ?_
              refine Fin.keepG (Γ' := [(1, _), (5, _), (6, _), (18, _), (145, _), (146, _), (147, _)]) (.same rfl (.same rfl (.same rfl (.same rfl (.same rfl (.same rfl (.same rfl .nil))))))) ?_
              refine Fin.blockNormal ?_
              refine Fin.next ?_
              refine Tr.region ?_
              first | refine TrL.stepS 172 (.plain rfl (.addI L.bd_i64 rfl (.of rfl) (.of rfl) (by omega) (by omega))) rfl rfl ?_ | refine TrL.stepS 172 (.plain rfl (.add rfl (.of rfl) (.of rfl))) rfl rfl ?_
              refine TrL.stepS 147 (.plain rfl (.move rfl (.of rfl))) rfl rfl ?_
              refine TrL.nil ?_
              refine Fin.keepG (Γ' := [(1, _), (5, _), (6, _), (18, _), (145, _), (146, _), (147, _)]) (.same rfl (.same rfl (.same rfl (.same rfl (.same rfl (.same rfl (.same rfl .nil))))))) ?_
              exact Fin.again ((k + 1, v170, g1, g2, l0 ++ [x], l1, l2)) (⟨by dsimp only; omega, perm3_0 hI.2 hx⟩) (by dsimp only; omega) (.same rfl (.same rfl (.same rfl (.same rfl (.same rfl (.same rfl .nil)))))) (.eq rfl (by first | rfl | (congr 1; first | done | omega | (push_cast; omega) | (push_cast; rfl))) (.same rfl (.same rfl (.same rfl (.same rfl (.same rfl (.same rfl .nil)))))))
            ·
              refine Tr.region ?_
              refine TrL.stepS 164 (.plain rfl (.move rfl (.of rfl))) rfl rfl ?_
              refine TrL.stepS 165 (.plain rfl (.move rfl (.of rfl))) rfl rfl ?_
              refine TrL.stepS 166 (.plain rfl (.indexArrP rfl (.of rfl) (.of rfl) Try.underlying136 T.sz24 (by omega) (by omega))) rfl rfl ?_
              refine TrL.stepS 167 (.plain rfl (.loadR 28 rfl (.of rfl) rfl rfl rfl T.sc24)) rfl rfl ?_
              refine TrL.stepS 168 (.plain rfl (.move rfl (.of rfl))) rfl rfl ?_
              refine TrL.stepS 169 (.plain rfl (.slice (K := (intR .i64)) (xs := [_]) rfl (.cons (.map (.of rfl) (intR_elem _)) .nil) Try.underlying24 T.sz2 T.zb2 rfl (by decide))) rfl rfl ?_
              refine TrL.appendS 41 (bytes := 8) rfl rfl 170 rfl rfl (.of rfl) rfl rfl (.of rfl) Try.underlying24 T.el2 (by simp) (by simp; omega) (by simp only [maxLen, List.length_append, List.length_cons, List.length_nil, List.length_map, List.length_take]; omega) fun v170 => ?_
              refine TrL.stepS 171 (.plain rfl (.indexArrP rfl (.of rfl) (.of rfl) Try.underlying136 T.sz24 (by omega) (by omega))) rfl rfl ?_
              refine TrL.memP 41 rfl rfl own_form fun hf => ?_
              refine TrL.storeR1 28 rfl rfl rfl (.of rfl) (.of rfl) rfl rfl (L.h1sl hf) T.sz24 rfl ?_
              refine TrL.nil ?_
              refine Fin.keepG (Γ' := [(1, _), (5, _), (6, _), (18, _), (145, _), (146, _), (147, _)]) (.same rfl (.same rfl (.same rfl (.same rfl (.same rfl (.same rfl (.same rfl .nil))))))) ?_
              refine Fin.blockNormal ?_
              refine Fin.next ?_
              refine Tr.region ?_
              first | refine TrL.stepS 172 (.plain rfl (.addI L.bd_i64 rfl (.of rfl) (.of rfl) (by omega) (by omega))) rfl rfl ?_ | refine TrL.stepS 172 (.plain rfl (.add rfl (.of rfl) (.of rfl))) rfl rfl ?_
              refine TrL.stepS 147 (.plain rfl (.move rfl (.of rfl))) rfl rfl ?_
              refine TrL.nil ?_
              refine Fin.keepG (Γ' := [(1, _), (5, _), (6, _), (18, _), (145, _), (146, _), (147, _)]) (.same rfl (.same rfl (.same rfl (.same rfl (.same rfl (.same rfl (.same rfl .nil))))))) ?_
              exact Fin.again ((k + 1, g0, v170, g2, l0, l1 ++ [x], l2)) (⟨by dsimp only; omega, perm3_1 hI.2 hx⟩) (by dsimp only; omega) (.same rfl (.same rfl (.same rfl (.same rfl (.same rfl (.same rfl .nil)))))) (.eq rfl (by first | rfl | (congr 1; first | done | omega | (push_cast; omega) | (push_cast; rfl))) (.same rfl (.same rfl (.same rfl (.same rfl (.same rfl (.same rfl .nil)))))))
            ·
              refine Tr.region ?_
              refine TrL.stepS 164 (.plain rfl (.move rfl (.of rfl))) rfl rfl ?_
              refine TrL.stepS 165 (.plain rfl (.move rfl (.of rfl))) rfl rfl ?_
              refine TrL.stepS 166 (.plain rfl (.indexArrP rfl (.of rfl) (.of rfl) Try.underlying136 T.sz24 (by omega) (by omega))) rfl rfl ?_
              refine TrL.stepS 167 (.plain rfl (.loadR 28 rfl (.of rfl) rfl rfl rfl T.sc24)) rfl rfl ?_
              refine TrL.stepS 168 (.plain rfl (.move rfl (.of rfl))) rfl rfl ?_
              refine TrL.stepS 169 (.plain rfl (.slice (K := (intR .i64)) (xs := [_]) rfl (.cons (.map (.of rfl) (intR_elem _)) .nil) Try.underlying24 T.sz2 T.zb2 rfl (by decide))) rfl rfl ?_
              refine TrL.appendS 42 (bytes := 8) rfl rfl 170 rfl rfl (.of rfl) rfl rfl (.of rfl) Try.underlying24 T.el2 (by simp) (by simp; omega) (by simp only [maxLen, List.length_append, List.length_cons, List.length_nil, List.length_map, List.length_take]; omega) fun v170 => ?_
              refine TrL.stepS 171 (.plain rfl (.indexArrP rfl (.of rfl) (.of rfl) Try.underlying136 T.sz24 (by omega) (by omega))) rfl rfl ?_
              refine TrL.memP 42 rfl rfl own_form fun hf => ?_
              refine TrL.storeR1 28 rfl rfl rfl (.of rfl) (.of rfl) rfl rfl (L.h1sl hf) T.sz24 rfl ?_
              refine TrL.nil ?_
              refine Fin.keepG (Γ' := [(1, _), (5, _), (6, _), (18, _), (145, _), (146, _), (147, _)]) (.same rfl (.same rfl (.same rfl (.same rfl (.same rfl (.same rfl (.same rfl .nil))))))) ?_
              refine Fin.blockNormal ?_
              refine Fin.next ?_
              refine Tr.region ?_
              first | refine TrL.stepS 172 (.plain rfl (.addI L.bd_i64 rfl (.of rfl) (.of rfl) (by omega) (by omega))) rfl rfl ?_ | refine TrL.stepS 172 (.plain rfl (.add rfl (.of rfl) (.of rfl))) rfl rfl ?_
              refine TrL.stepS 147 (.plain rfl (.move rfl (.of rfl))) rfl rfl ?_
              refine TrL.nil ?_
              refine Fin.keepG (Γ' := [(1, _), (5, _), (6, _), (18, _), (145, _), (146, _), (147, _)]) (.same rfl (.same rfl (.same rfl (.same rfl (.same rfl (.same rfl (.same rfl .nil))))))) ?_
              exact Fin.again ((k + 1, g0, g1, v170, l0, l1, l2 ++ [x])) (⟨by dsimp only; omega, perm3_2 hI.2 hx⟩) (by dsimp only; omega) (.same rfl (.same rfl (.same rfl (.same rfl (.same rfl (.same rfl .nil)))))) (.eq rfl (by first | rfl | (congr 1; first | done | omega | (push_cast; omega) | (push_cast; rfl))) (.same rfl (.same rfl (.same rfl (.same rfl (.same rfl (.same rfl .nil)))))))
        · try simp only [decide_eq_true_eq, decide_eq_false_iff_not, beq_iff_eq, beq_eq_false_iff_ne, bne_iff_ne, bne_eq_false_iff_eq, Bool.and_eq_true, Bool.and_eq_false_iff, Bool.or_eq_true, Bool.or_eq_false_iff, Bool.not_eq_true', Bool.not_eq_false', gt_iff_lt, ge_iff_le, Int.not_lt, Int.not_le, ne_eq, Int.natCast_nonneg, true_and, and_true, Decidable.not_not, not_true_eq_false, not_false_eq_true] at hb5
          rw [fit_split (show ¬ k < xs.length by omega)] at hI
          refine Tr.exit ?_
          refine Fin.thenExit ?_
          refine Fin.thenExit ?_
          refine Fin.blockOut ?_
          refine Fin.next ?_
          refine Tr.seq ?_
          refine Tr.freezeF 40 (R := Lst (intR .i64) l0) rfl (fun F L w h => Own.lst h) rfl ?_
          refine Tr.freezeF 41 (R := Lst (intR .i64) l1) rfl (fun F L w h => Own.lst h) rfl ?_
          refine Tr.freezeF 42 (R := Lst (intR .i64) l2) rfl (fun F L w h => Own.lst h) rfl ?_
          refine Tr.region ?_
          refine TrL.allocS 29 (zs := [.int .i64 0, .int .i64 0, .int .i64 0, .int .i64 0, .int .i64 0, .int .i64 0, .int .i64 0, .int .i64 0, .int .i64 0, .int .i64 0, .int .i64 0, .int .i64 0]) rfl rfl (by kernel_rfl) 22 rfl rfl rfl fun b29 => ?_
          refine TrL.nil ?_
          refine Fin.keepG (Γ' := [(5, _), (6, _), (18, _), (22, _)]) (.same rfl (.same rfl (.same rfl (.same rfl .nil)))) ?_
          refine Fin.next ?_
          refine Tr.seq ?_
          refine Tr.seq ?_
          refine Tr.region ?_
          refine TrL.stepS 173 (.plain rfl (.weaken (.loadRN 28 (k := 3) rfl (.of rfl) rfl rfl rfl T.ag136 rfl) fun v w h => AggR.is (cs := [g0, g1, g2]) h)) rfl rfl ?_
          refine TrL.stepS 174 (.plain rfl (.move rfl (.of rfl))) rfl rfl ?_
          refine TrL.nil ?_
          refine Fin.keepG (Γ' := [(5, _), (6, _), (22, _), (173, _), (174, _)]) (.same rfl (.same rfl (.same rfl (.same rfl (.same rfl .nil))))) ?_
          refine Fin.next ?_
          refine Tr.block ?_
          refine Tr.loopK (γ := Nat) (Γk := [(5, _), (6, _), (22, _), (173, _)]) (Mk := [(20, _), (21, _), (40, _), (41, _), (42, _), (28, _)]) (.same rfl (.same rfl (.same rfl (.same rfl .nil)))) (.same rfl (.same rfl (.same rfl (.same rfl (.same rfl (.same rfl .nil)))))) (fun i => i ≤ 3 ∧ (l0 ++ l1 ++ l2).Perm xs ∧ (0 < i → fit l0.sum = true) ∧ (1 < i → fit l1.sum = true) ∧ (2 < i → fit l2.sum = true)) (fun i => fun r => (29, Blk b29 (cells3 i (aggOf l0) (aggOf l1) (aggOf l2)) 137) :: r) (fun i => fun r => (174, is (.int .i64 i)) :: r) (fun i => 3 - i) (0) ?h0_2 ?hM_2 ?hG_2 ?hl_2
          case h0_2 => exact ⟨by omega, hI.2, fun h => absurd h (by omega), fun h => absurd h (by omega), fun h => absurd h (by omega)⟩
          case hM_2 => exact (.same rfl (.same rfl (.same rfl (.same rfl (.same rfl (.same rfl (.same rfl .nil)))))))
          case hG_2 => exact (.eq rfl (by first | rfl | (congr 1; first | done | omega | (push_cast; omega) | (push_cast; rfl))) (.same rfl (.same rfl (.same rfl (.same rfl .nil)))))
          case hl_2 =>
            intro i hI
            refine Tr.seq ?_
            refine Tr.region ?_
            refine TrL.stepS 175 (.plain rfl (.lss rfl (.of rfl) (.of rfl))) rfl rfl ?_
            refine TrL.nil ?_
            refine Fin.next ?_
            refine Tr.seq ?_
            refine Tr.cond rfl (fun hb7 => ?_) (fun hb7 => ?_)
            · try simp only [decide_eq_true_eq, decide_eq_false_iff_not, beq_iff_eq, beq_eq_false_iff_ne, bne_iff_ne, bne_eq_false_iff_eq, Bool.and_eq_true, Bool.and_eq_false_iff, Bool.or_eq_true, Bool.or_eq_false_iff, Bool.not_eq_true', Bool.not_eq_false', gt_iff_lt, ge_iff_le, Int.not_lt, Int.not_le, ne_eq, Int.natCast_nonneg, true_and, and_true, Decidable.not_not, not_true_eq_false, not_false_eq_true] at hb7
              refine Tr.skip ?_
              refine Fin.next ?_
              refine Tr.seq ?_
              refine Tr.block ?_
              refine Tr.seq ?_
              obtain rfl | rfl | rfl : i = 0 ∨ i = 1 ∨ i = 2 := by omega
              ·
                refine Tr.region ?_
                refine TrL.stepS 176 (.plain rfl (.move rfl (.of rfl))) rfl rfl ?_
                refine TrL.stepS 177 (.plain rfl (.indexV rfl (.of rfl) (.of rfl) (idx136_0 g0 g1 g2))) rfl rfl ?_
                refine TrL.stepS 23 (.plain rfl (.assign rfl (.of rfl))) rfl rfl ?_
                refine TrL.stepS 24 (.plain rfl (.assign rfl (.fact 40 rfl rfl rfl))) rfl rfl ?_
                refine TrL.nil ?_
                refine Fin.keepG (Γ' := [(5, _), (6, _), (22, _), (23, _), (24, _), (173, _), (174, _)]) (.same rfl (.same rfl (.same rfl (.same rfl (.same rfl (.same rfl (.same rfl .nil))))))) ?_
                refine Fin.next ?_
                refine Tr.seq ?_
                refine Tr.region ?_
                refine TrL.stepS 179 (.plain rfl (.move rfl (.of rfl))) rfl rfl ?_
                refine TrL.stepS 180 (.plain rfl (.call rfl (F87 l0 (by have := hI.2.1.length_eq; simp at this; omega) (fun y hy => hx0 y (hI.2.1.mem_iff.1 (by simp [hy])))) (.cons (.of rfl) .nil))) rfl rfl ?_
                refine TrL.stepS 178 (.plain rfl (.move rfl (.of rfl))) rfl rfl ?_
                refine TrL.stepS 181 (.plain rfl (.extract rfl (.of rfl) rfl)) rfl rfl ?_
                refine TrL.stepS 182 (.plain rfl (.extract rfl (.of rfl) rfl)) rfl rfl ?_
                refine TrL.allocS 30 (zs := [.int .i64 0, .int .i64 0, .int .i64 0, .int .i64 0]) rfl rfl (by kernel_rfl) 25 rfl rfl rfl fun b30 => ?_
                refine TrL.storeW 30 (vs := [_, _, _, _]) rfl rfl rfl (.of rfl) (.of rfl) rfl rfl T.sz122 rfl rfl ?_
                refine TrL.stepS 26 (.plain rfl (.assign rfl (.of rfl))) rfl rfl ?_
                refine TrL.nil ?_
                refine Fin.keepG (Γ' := [(5, _), (6, _), (22, _), (23, _), (25, _), (26, _), (173, _), (174, _)]) (.same rfl (.same rfl (.same rfl (.same rfl (.same rfl (.same rfl (.same rfl (.same rfl .nil)))))))) ?_
                refine Fin.next ?_
                refine Tr.seq ?_
                refine Tr.seq ?_
                refine Tr.region ?_
                refine TrL.stepS 183 (.plain rfl (.move rfl (.of rfl))) rfl rfl ?_
                refine TrL.stepS 184 (.plain rfl (.not rfl (.of rfl))) rfl rfl ?_
                refine TrL.nil ?_
                refine Fin.keepG (Γ' := [(5, _), (6, _), (22, _), (23, _), (25, _), (173, _), (174, _), (184, _)]) (.same rfl (.same rfl (.same rfl (.same rfl (.same rfl (.same rfl (.same rfl (.same rfl .nil)))))))) ?_
                refine Fin.next ?_
                refine Tr.cond rfl (fun hb8 => ?_) (fun hb8 => ?_)
                · try simp only [decide_eq_true_eq, decide_eq_false_iff_not, beq_iff_eq, beq_eq_false_iff_ne, bne_iff_ne, bne_eq_false_iff_eq, Bool.and_eq_true, Bool.and_eq_false_iff, Bool.or_eq_true, Bool.or_eq_false_iff, Bool.not_eq_true', Bool.not_eq_false', gt_iff_lt, ge_iff_le, Int.not_lt, Int.not_le, ne_eq, Int.natCast_nonneg, true_and, and_true, Decidable.not_not, not_true_eq_false, not_false_eq_true] at hb8
                  refine Tr.seq ?_
                  refine Tr.region ?_
                  refine TrL.stepS 4 (.plain rfl (.assign rfl (.of rfl))) rfl rfl ?_
                  refine TrL.nil ?_
                  refine Fin.keepG (Γ' := [(4, _)]) (.same rfl .nil) ?_
                  refine Fin.next ?_
                  refine Tr.ret ?_
                  refine Fin.thenRet ?_
                  refine Fin.blockRet ?_
                  refine Fin.thenRet ?_
                  refine Fin.thenRet ?_
                  refine Fin.blockRet ?_
                  refine Fin.thenRet ?_
                  exact Fin.retI (rs := [_]) (Rs' := [is (.bool true)]) rfl (.cons (.tmp rfl) .nil) (.cons (L.iv rfl) .nil)
                · try simp only [decide_eq_true_eq, decide_eq_false_iff_not, beq_iff_eq, beq_eq_false_iff_ne, bne_iff_ne, bne_eq_false_iff_eq, Bool.and_eq_true, Bool.and_eq_false_iff, Bool.or_eq_true, Bool.or_eq_false_iff, Bool.not_eq_true', Bool.not_eq_false', gt_iff_lt, ge_iff_le, Int.not_lt, Int.not_le, ne_eq, Int.natCast_nonneg, true_and, and_true, Decidable.not_not, not_true_eq_false, not_false_eq_true] at hb8
                  have hfl : fit l0.sum = true := by by_cases he : l0 = [] <;> simp [he, fit_zero] at hb8 ⊢; exact hb8
                  refine Tr.skip ?_
                  refine Fin.next ?_
                  refine Tr.region ?_
                  refine TrL.stepS 185 (.plain rfl (.move rfl (.of rfl))) rfl rfl ?_
                  refine TrL.stepS 186 (.plain rfl (.loadBN 30 (k := 4) (ds := [_, _, _, _]) rfl (.of rfl) rfl rfl rfl T.ag122 rfl)) rfl rfl ?_
                  refine TrL.stepS 187 (.plain rfl (.indexArrP rfl (.of rfl) (.of rfl) Try.underlying137 T.sz122 (by omega) (by omega))) rfl rfl ?_
                  refine TrL.storeA 29 (vs := [_, _, _, _]) rfl rfl rfl (.of rfl) (.of rfl) rfl rfl T.sz122 rfl rfl ?_
                  refine TrL.nil ?_
                  refine Fin.keepG (Γ' := [(5, _), (6, _), (22, _), (173, _), (174, _)]) (.same rfl (.same rfl (.same rfl (.same rfl (.same rfl .nil))))) ?_
                  refine Fin.blockNormal ?_
                  refine Fin.next ?_
                  refine Tr.region ?_
                  first | refine TrL.stepS 188 (.plain rfl (.addI L.bd_i64 rfl (.of rfl) (.of rfl) (by omega) (by omega))) rfl rfl ?_ | refine TrL.stepS 188 (.plain rfl (.add rfl (.of rfl) (.of rfl))) rfl rfl ?_
                  refine TrL.stepS 174 (.plain rfl (.move rfl (.of rfl))) rfl rfl ?_
                  refine TrL.nil ?_
                  refine Fin.keepG (Γ' := [(5, _), (6, _), (22, _), (173, _), (174, _)]) (.same rfl (.same rfl (.same rfl (.same rfl (.same rfl .nil))))) ?_
                  exact Fin.again (1) (⟨by omega, hI.2.1, fun _ => hfl, fun h => absurd h (by omega), fun h => absurd h (by omega)⟩) (by omega) (.same rfl (.same rfl (.same rfl (.same rfl (.same rfl (.same rfl (.same rfl .nil))))))) (.eq rfl (by first | rfl | (congr 1; first | done | omega | (push_cast; omega) | (push_cast; rfl))) (.same rfl (.same rfl (.same rfl (.same rfl .nil)))))
              ·
                refine Tr.region ?_
                refine TrL.stepS 176 (.plain rfl (.move rfl (.of rfl))) rfl rfl ?_
                refine TrL.stepS 177 (.plain rfl (.indexV rfl (.of rfl) (.of rfl) (idx136_1 g0 g1 g2))) rfl rfl ?_
                refine TrL.stepS 23 (.plain rfl (.assign rfl (.of rfl))) rfl rfl ?_
                refine TrL.stepS 24 (.plain rfl (.assign rfl (.fact 41 rfl rfl rfl))) rfl rfl ?_
                refine TrL.nil ?_
                refine Fin.keepG (Γ' := [(5, _), (6, _), (22, _), (23, _), (24, _), (173, _), (174, _)]) (.same rfl (.same rfl (.same rfl (.same rfl (.same rfl (.same rfl (.same rfl .nil))))))) ?_
                refine Fin.next ?_
                refine Tr.seq ?_
                refine Tr.region ?_
                refine TrL.stepS 179 (.plain rfl (.move rfl (.of rfl))) rfl rfl ?_
                refine TrL.stepS 180 (.plain rfl (.call rfl (F87 l1 (by have := hI.2.1.length_eq; simp at this; omega) (fun y hy => hx0 y (hI.2.1.mem_iff.1 (by simp [hy])))) (.cons (.of rfl) .nil))) rfl rfl ?_
                refine TrL.stepS 178 (.plain rfl (.move rfl (.of rfl))) rfl rfl ?_
                refine TrL.stepS 181 (.plain rfl (.extract rfl (.of rfl) rfl)) rfl rfl ?_
                refine TrL.stepS 182 (.plain rfl (.extract rfl (.of rfl) rfl)) rfl rfl ?_
                refine TrL.allocS 30 (zs := [.int .i64 0, .int .i64 0, .int .i64 0, .int .i64 0]) rfl rfl (by kernel_rfl) 25 rfl rfl rfl fun b30 => ?_
                refine TrL.storeW 30 (vs := [_, _, _, _]) rfl rfl rfl (.of rfl) (.of rfl) rfl rfl T.sz122 rfl rfl ?_
                refine TrL.stepS 26 (.plain rfl (.assign rfl (.of rfl))) rfl rfl ?_
                refine TrL.nil ?_
                refine Fin.keepG (Γ' := [(5, _), (6, _), (22, _), (23, _), (25, _), (26, _), (173, _), (174, _)]) (.same rfl (.same rfl (.same rfl (.same rfl (.same rfl (.same rfl (.same rfl (.same rfl .nil)))))))) ?_
                refine Fin.next ?_
                refine Tr.seq ?_
                refine Tr.seq ?_
                refine Tr.region ?_
                refine TrL.stepS 183 (.plain rfl (.move rfl (.of rfl))) rfl rfl ?_
                refine TrL.stepS 184 (.plain rfl (.not rfl (.of rfl))) rfl rfl ?_
                refine TrL.nil ?_
                refine Fin.keepG (Γ' := [(5, _), (6, _), (22, _), (23, _), (25, _), (173, _), (174, _), (184, _)]) (.same rfl (.same rfl (.same rfl (.same rfl (.same rfl (.same rfl (.same rfl (.same rfl .nil)))))))) ?_
                refine Fin.next ?_
                refine Tr.cond rfl (fun hb8 => ?_) (fun hb8 => ?_)
                · try simp only [decide_eq_true_eq, decide_eq_false_iff_not, beq_iff_eq, beq_eq_false_iff_ne, bne_iff_ne, bne_eq_false_iff_eq, Bool.and_eq_true, Bool.and_eq_false_iff, Bool.or_eq_true, Bool.or_eq_false_iff, Bool.not_eq_true', Bool.not_eq_false', gt_iff_lt, ge_iff_le, Int.not_lt, Int.not_le, ne_eq, Int.natCast_nonneg, true_and, and_true, Decidable.not_not, not_true_eq_false, not_false_eq_true] at hb8
                  refine Tr.seq ?_
                  refine Tr.region ?_
                  refine TrL.stepS 4 (.plain rfl (.assign rfl (.of rfl))) rfl rfl ?_
                  refine TrL.nil ?_
                  refine Fin.keepG (Γ' := [(4, _)]) (.same rfl .nil) ?_
                  refine Fin.next ?_
                  refine Tr.ret ?_
                  refine Fin.thenRet ?_
                  refine Fin.blockRet ?_
                  refine Fin.thenRet ?_
                  refine Fin.thenRet ?_
                  refine Fin.blockRet ?_
                  refine Fin.thenRet ?_
                  exact Fin.retI (rs := [_]) (Rs' := [is (.bool true)]) rfl (.cons (.tmp rfl) .nil) (.cons (L.iv rfl) .nil)
                · try simp only [decide_eq_true_eq, decide_eq_false_iff_not, beq_iff_eq, beq_eq_false_iff_ne, bne_iff_ne, bne_eq_false_iff_eq, Bool.and_eq_true, Bool.and_eq_false_iff, Bool.or_eq_true, Bool.or_eq_false_iff, Bool.not_eq_true', Bool.not_eq_false', gt_iff_lt, ge_iff_le, Int.not_lt, Int.not_le, ne_eq, Int.natCast_nonneg, true_and, and_true, Decidable.not_not, not_true_eq_false, not_false_eq_true] at hb8
                  have hfl : fit l1.sum = true := by by_cases he : l1 = [] <;> simp [he, fit_zero] at hb8 ⊢; exact hb8
                  refine Tr.skip ?_
                  refine Fin.next ?_
                  refine Tr.region ?_
                  refine TrL.stepS 185 (.plain rfl (.move rfl (.of rfl))) rfl rfl ?_
                  refine TrL.stepS 186 (.plain rfl (.loadBN 30 (k := 4) (ds := [_, _, _, _]) rfl (.of rfl) rfl rfl rfl T.ag122 rfl)) rfl rfl ?_
                  refine TrL.stepS 187 (.plain rfl (.indexArrP rfl (.of rfl) (.of rfl) Try.underlying137 T.sz122 (by omega) (by omega))) rfl rfl ?_
                  refine TrL.storeA 29 (vs := [_, _, _, _]) rfl rfl rfl (.of rfl) (.of rfl) rfl rfl T.sz122 rfl rfl ?_
                  refine TrL.nil ?_
                  refine Fin.keepG (Γ' := [(5, _), (6, _), (22, _), (173, _), (174, _)]) (.same rfl (.same rfl (.same rfl (.same rfl (.same rfl .nil))))) ?_
                  refine Fin.blockNormal ?_
                  refine Fin.next ?_
                  refine Tr.region ?_
                  first | refine TrL.stepS 188 (.plain rfl (.addI L.bd_i64 rfl (.of rfl) (.of rfl) (by omega) (by omega))) rfl rfl ?_ | refine TrL.stepS 188 (.plain rfl (.add rfl (.of rfl) (.of rfl))) rfl rfl ?_
                  refine TrL.stepS 174 (.plain rfl (.move rfl (.of rfl))) rfl rfl ?_
                  refine TrL.nil ?_
                  refine Fin.keepG (Γ' := [(5, _), (6, _), (22, _), (173, _), (174, _)]) (.same rfl (.same rfl (.same rfl (.same rfl (.same rfl .nil))))) ?_
                  exact Fin.again (2) (⟨by omega, hI.2.1, fun _ => hI.2.2.1 (by omega), fun h => hfl, fun h => absurd h (by omega)⟩) (by omega) (.same rfl (.same rfl (.same rfl (.same rfl (.same rfl (.same rfl (.same rfl .nil))))))) (.eq rfl (by first | rfl | (congr 1; first | done | omega | (push_cast; omega) | (push_cast; rfl))) (.same rfl (.same rfl (.same rfl (.same rfl .nil)))))
              ·
                refine Tr.region ?_
                refine TrL.stepS 176 (.plain rfl (.move rfl (.of rfl))) rfl rfl ?_
                refine TrL.stepS 177 (.plain rfl (.indexV rfl (.of rfl) (.of rfl) (idx136_2 g0 g1 g2))) rfl rfl ?_
                refine TrL.stepS 23 (.plain rfl (.assign rfl (.of rfl))) rfl rfl ?_
                refine TrL.stepS 24 (.plain rfl (.assign rfl (.fact 42 rfl rfl rfl))) rfl rfl ?_
                refine TrL.nil ?_
                refine Fin.keepG (Γ' := [(5, _), (6, _), (22, _), (23, _), (24, _), (173, _), (174, _)]) (.same rfl (.same rfl (.same rfl (.same rfl (.same rfl (.same rfl (.same rfl .nil))))))) ?_
                refine Fin.next ?_
                refine Tr.seq ?_
                refine Tr.region ?_
                refine TrL.stepS 179 (.plain rfl (.move rfl (.of rfl))) rfl rfl ?_
                refine TrL.stepS 180 (.plain rfl (.call rfl (F87 l2 (by have := hI.2.1.length_eq; simp at this; omega) (fun y hy => hx0 y (hI.2.1.mem_iff.1 (by simp [hy])))) (.cons (.of rfl) .nil))) rfl rfl ?_
                refine TrL.stepS 178 (.plain rfl (.move rfl (.of rfl))) rfl rfl ?_
                refine TrL.stepS 181 (.plain rfl (.extract rfl (.of rfl) rfl)) rfl rfl ?_
                refine TrL.stepS 182 (.plain rfl (.extract rfl (.of rfl) rfl)) rfl rfl ?_
                refine TrL.allocS 30 (zs := [.int .i64 0, .int .i64 0, .int .i64 0, .int .i64 0]) rfl rfl (by kernel_rfl) 25 rfl rfl rfl fun b30 => ?_
                refine TrL.storeW 30 (vs := [_, _, _, _]) rfl rfl rfl (.of rfl) (.of rfl) rfl rfl T.sz122 rfl rfl ?_
                refine TrL.stepS 26 (.plain rfl (.assign rfl (.of rfl))) rfl rfl ?_
                refine TrL.nil ?_
                refine Fin.keepG (Γ' := [(5, _), (6, _), (22, _), (23, _), (25, _), (26, _), (173, _), (174, _)]) (.same rfl (.same rfl (.same rfl (.same rfl (.same rfl (.same rfl (.same rfl (.same rfl .nil)))))))) ?_
                refine Fin.next ?_
                refine Tr.seq ?_
                refine Tr.seq ?_
                refine Tr.region ?_
                refine TrL.stepS 183 (.plain rfl (.move rfl (.of rfl))) rfl rfl ?_
                refine TrL.stepS 184 (.plain rfl (.not rfl (.of rfl))) rfl rfl ?_
                refine TrL.nil ?_
                refine Fin.keepG (Γ' := [(5, _), (6, _), (22, _), (23, _), (25, _), (173, _), (174, _), (184, _)]) (.same rfl (.same rfl (.same rfl (.same rfl (.same rfl (.same rfl (.same rfl (.same rfl .nil)))))))) ?_
                refine Fin.next ?_
                refine Tr.cond rfl (fun hb8 => ?_) (fun hb8 => ?_)
                · try simp only [decide_eq_true_eq, decide_eq_false_iff_not, beq_iff_eq, beq_eq_false_iff_ne, bne_iff_ne, bne_eq_false_iff_eq, Bool.and_eq_true, Bool.and_eq_false_iff, Bool.or_eq_true, Bool.or_eq_false_iff, Bool.not_eq_true', Bool.not_eq_false', gt_iff_lt, ge_iff_le, Int.not_lt, Int.not_le, ne_eq, Int.natCast_nonneg, true_and, and_true, Decidable.not_not, not_true_eq_false, not_false_eq_true] at hb8
                  refine Tr.seq ?_
                  refine Tr.region ?_
                  refine TrL.stepS 4 (.plain rfl (.assign rfl (.of rfl))) rfl rfl ?_
                  refine TrL.nil ?_
                  refine Fin.keepG (Γ' := [(4, _)]) (.same rfl .nil) ?_
                  refine Fin.next ?_
                  refine Tr.ret ?_
                  refine Fin.thenRet ?_
                  refine Fin.blockRet ?_
                  refine Fin.thenRet ?_
                  refine Fin.thenRet ?_
                  refine Fin.blockRet ?_
                  refine Fin.thenRet ?_
                  exact Fin.retI (rs := [_]) (Rs' := [is (.bool true)]) rfl (.cons (.tmp rfl) .nil) (.cons (L.iv rfl) .nil)
                · try simp only [decide_eq_true_eq, decide_eq_false_iff_not, beq_iff_eq, beq_eq_false_iff_ne, bne_iff_ne, bne_eq_false_iff_eq, Bool.and_eq_true, Bool.and_eq_false_iff, Bool.or_eq_true, Bool.or_eq_false_iff, Bool.not_eq_true', Bool.not_eq_false', gt_iff_lt, ge_iff_le, Int.not_lt, Int.not_le, ne_eq, Int.natCast_nonneg, true_and, and_true, Decidable.not_not, not_true_eq_false, not_false_eq_true] at hb8
                  have hfl : fit l2.sum = true := by by_cases he : l2 = [] <;> simp [he, fit_zero] at hb8 ⊢; exact hb8
                  refine Tr.skip ?_
                  refine Fin.next ?_
                  refine Tr.region ?_
                  refine TrL.stepS 185 (.plain rfl (.move rfl (.of rfl))) rfl rfl ?_
                  refine TrL.stepS 186 (.plain rfl (.loadBN 30 (k := 4) (ds := [_, _, _, _]) rfl (.of rfl) rfl rfl rfl T.ag122 rfl)) rfl rfl ?_
                  refine TrL.stepS 187 (.plain rfl (.indexArrP rfl (.of rfl) (.of rfl) Try.underlying137 T.sz122 (by omega) (by omega))) rfl rfl ?_
                  refine TrL.storeA 29 (vs := [_, _, _, _]) rfl rfl rfl (.of rfl) (.of rfl) rfl rfl T.sz122 rfl rfl ?_
                  refine TrL.nil ?_
                  refine Fin.keepG (Γ' := [(5, _), (6, _), (22, _), (173, _), (174, _)]) (.same rfl (.same rfl (.same rfl (.same rfl (.same rfl .nil))))) ?_
                  refine Fin.blockNormal ?_
                  refine Fin.next ?_
                  refine Tr.region ?_
                  first | refine TrL.stepS 188 (.plain rfl (.addI L.bd_i64 rfl (.of rfl) (.of rfl) (by omega) (by omega))) rfl rfl ?_ | refine TrL.stepS 188 (.plain rfl (.add rfl (.of rfl) (.of rfl))) rfl rfl ?_
                  refine TrL.stepS 174 (.plain rfl (.move rfl (.of rfl))) rfl rfl ?_
                  refine TrL.nil ?_
                  refine Fin.keepG (Γ' := [(5, _), (6, _), (22, _), (173, _), (174, _)]) (.same rfl (.same rfl (.same rfl (.same rfl (.same rfl .nil))))) ?_
                  exact Fin.again (3) (⟨by omega, hI.2.1, fun _ => hI.2.2.1 (by omega), fun h => hI.2.2.2.1 (by omega), fun h => hfl⟩) (by omega) (.same rfl (.same rfl (.same rfl (.same rfl (.same rfl (.same rfl (.same rfl .nil))))))) (.eq rfl (by first | rfl | (congr 1; first | done | omega | (push_cast; omega) | (push_cast; rfl))) (.same rfl (.same rfl (.same rfl (.same rfl .nil)))))
            · try simp only [decide_eq_true_eq, decide_eq_false_iff_not, beq_iff_eq, beq_eq_false_iff_ne, bne_iff_ne, bne_eq_false_iff_eq, Bool.and_eq_true, Bool.and_eq_false_iff, Bool.or_eq_true, Bool.or_eq_false_iff, Bool.not_eq_true', Bool.not_eq_false', gt_iff_lt, ge_iff_le, Int.not_lt, Int.not_le, ne_eq, Int.natCast_nonneg, true_and, and_true, Decidable.not_not, not_true_eq_false, not_false_eq_true] at hb7
              obtain rfl : i = 3 := by omega
              have hJ := join_all (LL := [l2, l0, l1]) (xs := xs) (List.Perm.trans (by simpa using (List.perm_append_comm (l₁ := l0 ++ l1) (l₂ := l2)).symm) hI.2.1) (by omega) (by simp only [List.mem_cons, List.not_mem_nil, or_false]; rintro l (rfl | rfl | rfl); exact hI.2.2.2.2 (by omega); exact hI.2.2.1 (by omega); exact hI.2.2.2.1 (by omega))
              simp only [List.map_cons, List.map_nil] at hJ
              refine Tr.exit ?_
              refine Fin.thenExit ?_
              refine Fin.thenExit ?_
              refine Fin.blockOut ?_
              refine Fin.next ?_
              refine Tr.seq ?_
              refine Tr.region ?_
              refine TrL.stepS 190 (.plain rfl (.indexArrP rfl (.of rfl) (.of rfl) Try.underlying137 T.sz122 (by omega) (by omega))) rfl rfl ?_
              refine TrL.stepS 191 (.plain rfl (.loadBN 29 (k := 4) (ds := [_, _, _, _]) rfl (.of rfl) rfl rfl rfl T.ag122 rfl)) rfl rfl ?_
              refine TrL.stepS 192 (.plain rfl (.indexArrP rfl (.of rfl) (.of rfl) Try.underlying137 T.sz122 (by omega) (by omega))) rfl rfl ?_
              refine TrL.stepS 193 (.plain rfl (.loadBN 29 (k := 4) (ds := [_, _, _, _]) rfl (.of rfl) rfl rfl rfl T.ag122 rfl)) rfl rfl ?_
              refine TrL.stepS 194 (.plain rfl (.indexArrP rfl (.of rfl) (.of rfl) Try.underlying137 T.sz122 (by omega) (by omega))) rfl rfl ?_
              refine TrL.stepS 195 (.plain rfl (.loadBN 29 (k := 4) (ds := [_, _, _, _]) rfl (.of rfl) rfl rfl rfl T.ag122 rfl)) rfl rfl ?_
              refine TrL.stepS 196 (.plain rfl (.slice (K := aggR) (xs := [_, _, _]) rfl (.cons (.map (.of rfl) (aggR_elem' _ _ _ _)) (.cons (.map (.of rfl) (aggR_elem' _ _ _ _)) (.cons (.map (.of rfl) (aggR_elem' _ _ _ _)) .nil))) Try.underlying210 T.sz122 T.zb122 rfl (by decide))) rfl rfl ?_
              refine TrL.stepS 197 (.plain rfl (.call rfl (F81 [aggOf l2, aggOf l0, aggOf l1] (by simp) (by have h := hI.2.1.length_eq; simp at h; simp only [List.mem_cons, List.not_mem_nil, or_false]; rintro y (rfl | rfl | rfl) <;> exact okA_agg _ (by omega))) (.cons (.of rfl) .nil))) rfl rfl ?_
              refine TrL.stepS 189 (.plain rfl (.move rfl (.of rfl))) rfl rfl ?_
              refine TrL.stepS 198 (.plain rfl (.extract rfl (.of rfl) rfl)) rfl rfl ?_
              refine TrL.stepS 199 (.plain rfl (.extract rfl (.of rfl) rfl)) rfl rfl ?_
              refine TrL.allocS 31 (zs := [.int .i64 0, .int .i64 0, .int .i64 0, .int .i64 0]) rfl rfl (by kernel_rfl) 27 rfl rfl rfl fun b31 => ?_
              refine TrL.storeW 31 (vs := [_, _, _, _]) rfl rfl rfl (.of rfl) (.of rfl) rfl rfl T.sz122 rfl rfl ?_
              refine TrL.stepS 8 (.plain rfl (.assign rfl (.of rfl))) rfl rfl ?_
              refine TrL.nil ?_
              refine Fin.keepG (Γ' := [(5, _), (6, _), (8, _), (27, _)]) (.same rfl (.same rfl (.same rfl (.same rfl .nil)))) ?_
              refine Fin.next ?_
              refine Tr.seq ?_
              refine Tr.region ?_
              refine TrL.stepS 200 (.plain rfl (.loadBN 31 (k := 4) (ds := [_, _, _, _]) rfl (.of rfl) rfl rfl rfl T.ag122 rfl)) rfl rfl ?_
              refine TrL.stepS 201 (.plain rfl (.loadBN 20 (k := 4) (ds := [_, _, _, _]) rfl (.of rfl) rfl rfl rfl T.ag122 rfl)) rfl rfl ?_
              refine TrL.stepS 202 (.plain rfl (.eqlS rfl (.of rfl) (.of rfl) (by kernel_rfl) (T.eq122 _ _ _ _ _ _ _ _))) rfl rfl ?_
              refine TrL.stepS 203 (.plain rfl (.move rfl (.of rfl))) rfl rfl ?_
              refine TrL.stepS 204 (.guarded rfl rfl rfl fun hg => .move rfl (.of rfl)) rfl rfl ?_
              refine TrL.stepS 205 (.guarded rfl rfl rfl fun hg => .move rfl (.of rfl)) rfl rfl ?_
              refine TrL.stepS 206 (.guarded rfl rfl rfl fun hg => .eql rfl (.cond rfl hg) (.of rfl)) rfl rfl ?_
              refine TrL.stepS 207 (.guarded rfl rfl rfl fun hg => .eqlB rfl (.cond rfl hg) (.cond rfl hg) Try.underlying4) rfl rfl ?_
              refine TrL.stepS 208 (.plain rfl (.and rfl (.of rfl) (.cond rfl fun h => h))) rfl rfl ?_
              refine TrL.stepS 209 (.plain rfl (.move rfl (.of rfl))) rfl rfl ?_
              refine TrL.stepS 210 (.guarded rfl rfl rfl fun hg => .move rfl (.of rfl)) rfl rfl ?_
              refine TrL.stepS 211 (.guarded rfl rfl rfl fun hg => .move rfl (.cond rfl hg)) rfl rfl ?_
              refine TrL.stepS 212 (.guarded2 rfl rfl rfl fun hp hg => .move rfl (.of rfl)) rfl rfl ?_
              refine TrL.stepS 213 (.guarded2 rfl rfl rfl fun hp hg => .eql rfl (.cond rfl ⟨hp, hg⟩) (.of rfl)) rfl rfl ?_
              refine TrL.stepS 214 (.guarded rfl rfl rfl fun hg => .or rfl (.cond rfl hg) (.cond rfl fun h => ⟨hg, h⟩)) rfl rfl ?_
              refine TrL.stepS 215 (.plain rfl (.and rfl (.of rfl) (.cond rfl fun h => h))) rfl rfl ?_
              refine TrL.stepS 4 (.plain rfl (.assign rfl (.of rfl))) rfl rfl ?_
              refine TrL.nil ?_
              refine Fin.keepG (Γ' := [(4, _)]) (.same rfl .nil) ?_
              refine Fin.next ?_
              refine Tr.ret ?_
              refine Fin.retI (rs := [_]) (Rs' := [is (.bool true)]) rfl (.cons (.tmp rfl) .nil) (.cons (L.iv ?_) .nil)
              · rw [hJ.1]; cases hf : fit xs.sum with
                | true => rw [hJ.2 hf]; simp [hf]
                | false => (have hj2 := hJ.1; rw [hf] at hj2; by_cases he : xs = []; (subst he; simp [fit_zero] at hf); simp [aggOf_not hf, joinOf_not hj2, he])

end Go.Proofs.Ytemkogoclljhpaa