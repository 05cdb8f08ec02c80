/- Insertion puts each value at the place that it must have, those that are alike as they stood. -/
import Derived.Test.YtemkogoclljhpaaS9
namespace Go.Proofs.Ytemkogoclljhpaa
open Go Go.Proofs.Ytemkogoclljhpaa.L
set_option linter.unusedVariables false
set_option linter.unusedSimpArgs false
section
variable {α : Type} {c : α → α → Int}
def insR (c : α → α → Int) (x : α) : List α → List α
  | [] => [x]
  | y :: ys => if c x y < 0 then y :: insR c x ys else x :: y :: ys
theorem sift_low {a : Nat} : ∀ (j : Nat) (l : List α), j ≤ a → sift c a j l = l
  | 0, l, _ => rfl
  | j + 1, l, h => by
    simp only [sift]
    split
    · rw [if_neg (by omega)]
    · rfl
theorem sift_ins {a : Nat} : ∀ (p f r : List α) (x : α), f.length = a → sift c a (a + p.length) (f ++ p.reverse ++ x :: r) = f ++ (insR c x p).reverse ++ r
  | [], f, r, x, hf => by
    rw [sift_low _ _ (by simp)]
    simp [insR]
  | y :: p, f, r, x, hf => by
    have hx : (f ++ (y :: p).reverse ++ x :: r)[a + (p.length + 1)]? = some x := by
      rw [List.getElem?_append_right (by simp; omega)]
      simp [hf]
    have hy : (f ++ (y :: p).reverse ++ x :: r)[a + (p.length + 1) - 1]? = some y := by
      rw [List.getElem?_append_left (by simp; omega), List.getElem?_append_right (by omega)]
      simp only [List.reverse_cons]
      rw [List.getElem?_append_right (by simp; omega)]
      simp [hf]
    rw [List.length_cons]
    by_cases h : c x y < 0
    · rw [sift_step hx hy ⟨by omega, h⟩]
      have e : ((f ++ (y :: p).reverse ++ x :: r).set (a + (p.length + 1)) y).set (a + (p.length + 1) - 1) x = f ++ p.reverse ++ x :: (y :: r) := by
        rw [List.set_append_right _ _ (by simp; omega)]
        have e1 : a + (p.length + 1) - (f ++ (y :: p).reverse).length = 0 := by simp; omega
        rw [e1, List.set_cons_zero]
        simp only [List.reverse_cons, List.append_assoc]
        rw [List.set_append_right _ _ (by omega), List.set_append_right _ _ (by simp; omega)]
        have e2 : a + (p.length + 1) - 1 - f.length - p.reverse.length = 0 := by simp; omega
        rw [e2]; simp
      rw [e, show a + (p.length + 1) - 1 = a + p.length by omega, sift_ins p f (y :: r) x hf]
      simp [insR, h]
    · rw [sift_stop hx hy (.inr (by omega))]
      simp [insR, h]
theorem outN_fold : ∀ (n : Nat) (p b : List α), n ≤ b.length → outN c 0 n p.length (p.reverse ++ b) = ((b.take n).foldl (fun acc x => insR c x acc) p).reverse ++ b.drop n
  | 0, p, b, _ => by simp [outN]
  | n + 1, p, [], h => by simp at h
  | n + 1, p, x :: b, h => by
    simp only [outN]
    have := sift_ins (c := c) (a := 0) p [] b x rfl
    simp only [Nat.zero_add, List.nil_append] at this
    rw [this]
    have hlen : (insR c x p).length = p.length + 1 := by
      have : ∀ q : List α, (insR c x q).length = q.length + 1 := by
        intro q
        induction q with
        | nil => rfl
        | cons y q ih => simp only [insR]; split <;> simp [ih]
      exact this p
    have := outN_fold n (insR c x p) b (by simpa using h)
    rw [hlen] at this
    rw [this]
    simp
theorem isort_fold (l : List α) : isort c l = (l.foldl (fun acc x => insR c x acc) []).reverse := by
  cases l with
  | nil => rfl
  | cons x l =>
    have := outN_fold (c := c) l.length [x] l (Nat.le_refl _)
    unfold isort
    simp only [List.length_cons, Nat.add_sub_cancel]
    simpa [insR] using this
/-! ### values with the places where they stood -/
def tagC (c : α → α → Int) (p q : α × Nat) : Int := if c p.1 q.1 = 0 then cmpI p.2 q.2 else c p.1 q.1
theorem ord_tag (h : Ord3 c) : Ord3 (tagC c) := ord_then (ord_at h (fun p : α × Nat => p.1)) (ord_at ordI (fun p : α × Nat => (p.2 : Int)))
theorem cmpI_lt {a b : Int} : cmpI a b < 0 ↔ a < b := by unfold cmpI; (repeat' split) <;> omega
theorem cmpI_zero {a b : Int} : cmpI a b = 0 ↔ a = b := by unfold cmpI; (repeat' split) <;> omega
theorem ins_tag (x : α) (i : Nat) : ∀ q : List (α × Nat), (∀ p ∈ q, p.2 < i) → (insR (tagC c) (x, i) q).map (·.1) = insR c x (q.map (·.1))
  | [], _ => rfl
  | y :: q, h => by
    have hy := h y (by simp)
    have hb : tagC c (x, i) y < 0 ↔ c x y.1 < 0 := by
      unfold tagC
      simp only
      split
      · rename_i h0
        have : ¬ cmpI (i : Int) (y.2 : Int) < 0 := by rw [cmpI_lt]; omega
        omega
      · rfl
    simp only [insR, List.map_cons, hb]
    split
    · simp [ins_tag x i q fun p hp => h p (by simp [hp])]
    · simp
theorem ins_perm (x : α) : ∀ q : List α, (insR c x q).Perm (x :: q)
  | [] => .refl _
  | y :: q => by
    simp only [insR]
    split
    · exact ((ins_perm x q).cons y).trans (.swap x y q)
    · exact .refl _
theorem Ord3.lt_trans (h : Ord3 c) {a b d : α} (h1 : c a b < 0) (h2 : c b d < 0) : c a d < 0 := by
  have l1 := h.le a b d (by omega) (by omega)
  have l2 := h.le d a b
  have := h.anti a d; have := h.anti b d
  by_cases e : c a d < 0
  · exact e
  · have := l2 (by omega) (by omega); omega
/-- strictly falling -/
theorem ins_sorted (h : Ord3 c) (x : α) : ∀ q : List α, q.Pairwise (fun a b => c b a < 0) → (∀ y ∈ q, c x y ≠ 0) → (insR c x q).Pairwise fun a b => c b a < 0
  | [], _, _ => by simp [insR]
  | y :: q, hs, hn => by
    rw [List.pairwise_cons] at hs
    simp only [insR]
    split
    · rename_i hxy
      rw [List.pairwise_cons]
      refine ⟨fun z hz => ?_, ins_sorted h x q hs.2 fun z hz => hn z (by simp [hz])⟩
      rcases List.mem_cons.1 ((ins_perm x q).mem_iff.1 hz) with rfl | hz
      · exact hxy
      · exact hs.1 z hz
    · rename_i hxy
      have h0 := hn y (by simp)
      have hyx : c y x < 0 := by have := h.anti x y; omega
      rw [List.pairwise_cons]
      refine ⟨fun z hz => ?_, List.pairwise_cons.2 hs⟩
      rcases List.mem_cons.1 hz with rfl | hz
      · exact hyx
      · exact h.lt_trans (hs.1 z hz) hyx
theorem fold_tag (h : Ord3 c) : ∀ (l : List α) (k : Nat) (q : List (α × Nat)), (∀ p ∈ q, p.2 < k) → q.Pairwise (fun a b => tagC c b a < 0) →
    ((l.zipIdx k).foldl (fun acc x => insR (tagC c) x acc) q).map (·.1) = l.foldl (fun acc x => insR c x acc) (q.map (·.1)) ∧ ((l.zipIdx k).foldl (fun acc x => insR (tagC c) x acc) q).Pairwise (fun a b => tagC c b a < 0) ∧
    ((l.zipIdx k).foldl (fun acc x => insR (tagC c) x acc) q).Perm (q ++ l.zipIdx k)
  | [], k, q, _, hs => ⟨rfl, hs, by simp⟩
  | x :: l, k, q, hq, hs => by
    rw [List.zipIdx_cons, List.foldl_cons, List.foldl_cons]
    have hp := ins_perm (c := tagC c) (x, k) q
    have hne : ∀ y ∈ q, tagC c (x, k) y ≠ 0 := fun y hy => by
      have := hq y hy
      unfold tagC
      simp only
      split
      · rw [Ne, cmpI_zero]; omega
      · assumption
    obtain ⟨h1, h2, h3⟩ := fold_tag h l (k + 1) (insR (tagC c) (x, k) q) (fun p hp' => by
      rcases List.mem_cons.1 (hp.mem_iff.1 hp') with rfl | h'
      · simp
      · have := hq p h'; omega) (ins_sorted (ord_tag h) (x, k) q hs hne)
    refine ⟨by rw [h1, ins_tag x k q hq], h2, h3.trans ?_⟩
    exact (hp.append_right _).trans (by simpa using (List.perm_middle (l₁ := q) (a := (x, k)) (l₂ := l.zipIdx (k + 1))).symm)
/-- where a value stands among those that rise strictly -/
theorem rank_at (h : Ord3 c) : ∀ (s : List α), s.Pairwise (fun a b => c a b < 0) → ∀ x ∈ s, s[s.countP fun y => decide (c y x < 0)]? = some x
  | [], _, x, hx => by simp at hx
  | y :: s, hs, x, hx => by
    rw [List.pairwise_cons] at hs
    have hxx : c x x = 0 := by have := h.anti x x; omega
    rcases List.mem_cons.1 hx with rfl | hx
    · have h0 : (x :: s).countP (fun y => decide (c y x < 0)) = 0 := by
        rw [List.countP_eq_zero]
        intro z hz
        rcases List.mem_cons.1 hz with rfl | hz
        · simp [hxx]
        · have := hs.1 z hz; have := h.anti x z; simp; omega
      rw [h0]; rfl
    · have hyx := hs.1 x hx
      rw [List.countP_cons_of_pos (by simpa using hyx), List.getElem?_cons_succ]
      exact rank_at h s hs.2 x hx
def rank (c : α → α → Int) (l : List α) (i : Nat) (x : α) : Nat := l.zipIdx.countP fun p => decide (c p.1 x < 0 ∨ (c p.1 x = 0 ∧ p.2 < i))
theorem isort_at (h : Ord3 c) {l : List α} {i : Nat} {x : α} (hx : l[i]? = some x) : (isort c l)[rank c l i x]? = some x := by
  obtain ⟨h1, h2, h3⟩ := fold_tag h l 0 [] (by simp) (by simp)
  rw [List.nil_append] at h3
  obtain ⟨s, hs⟩ : ∃ s, s = (l.zipIdx.foldl (fun acc x => insR (tagC c) x acc) []) := ⟨_, rfl⟩
  rw [← hs] at h1 h2 h3
  have e : isort c l = s.reverse.map (·.1) := by rw [isort_fold, List.map_reverse, h1]; rfl
  have hm : (x, i) ∈ s.reverse := by
    rw [List.mem_reverse, h3.mem_iff, List.mem_zipIdx_iff_getElem?]; exact hx
  have hr := rank_at (ord_tag h) s.reverse (by rw [List.pairwise_reverse]; exact h2) (x, i) hm
  have hc : s.reverse.countP (fun y => decide (tagC c y (x, i) < 0)) = rank c l i x := by
    rw [(List.reverse_perm s).countP_eq, h3.countP_eq]
    unfold rank
    refine List.countP_congr fun p _ => ?_
    simp only [decide_eq_true_eq]
    unfold tagC
    simp only
    split
    · rename_i h0; rw [cmpI_lt]; omega
    · rename_i h0; omega
  rw [hc] at hr
  rw [e, List.getElem?_map, hr]; rfl
theorem rank_take {l : List α} {i j : Nat} {x y : α} (hy : l[j]? = some y) : rank c (l.take (j + 1)) i x = rank c (l.take j) i x + if c y x < 0 ∨ (c y x = 0 ∧ j < i) then 1 else 0 := by
  unfold rank
  rw [take_snoc hy, List.zipIdx_append, List.countP_append]
  have hl : (l.take j).length = j := by rw [List.length_take]; have := getL_len hy; omega
  simp only [hl, Nat.zero_add, List.zipIdx_cons, List.zipIdx_nil, List.countP_singleton]
  simp
theorem rank_le {l : List α} {i : Nat} {x : α} : rank c l i x ≤ l.length := by
  unfold rank
  exact Nat.le_trans List.countP_le_length (by simp)
end
end Go.Proofs.Ytemkogoclljhpaa
