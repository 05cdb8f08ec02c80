import Derived.Test.YtemkogoclljhpaaS7
namespace Go.Proofs.Ytemkogoclljhpaa
open Go Go.Proofs.Ytemkogoclljhpaa.L
set_option linter.unusedVariables false
set_option linter.unusedSimpArgs false

namespace T

end T


def rowP : PRep Rw := ⟨7, fun r => [.string r.1.1, .int .i64 r.1.2.1, .int .i64 r.1.2.2, .int .i64 r.2.1, .int .i64 r.2.2.1, .int .i64 r.2.2.2.1, .int .i64 r.2.2.2.2], fun _ => rfl, fun _ => rfl, by decide, ((ByteArray.empty, 0, 0), (0, 0, 0, 0))⟩
def rowR : Rep Rw := rowP.rep
theorem rowR_elem (s : ByteArray) (a b c d e f : Int) : ∀ v w, is (.agg #[.string s, .int .i64 a, .int .i64 b, .int .i64 c, .int .i64 d, .int .i64 e, .int .i64 f]) v w → ElemV rowR ((s, a, b), (c, d, e, f)) v w := by
  rintro v w rfl
  exact .cons rfl (.cons rfl (.cons rfl (.cons rfl (.cons rfl (.cons rfl (.cons rfl .nil))))))

/-- one value put to its place among those ahead of it -/
def sift {α : Type} (c : α → α → Int) (a : Nat) : Nat → List α → List α
  | 0, l => l
  | j + 1, l => match l[j + 1]?, l[j]? with
    | some x, some y => if a < j + 1 ∧ c x y < 0 then sift c a j ((l.set (j + 1) y).set j x) else l
    | _, _ => l
def outN {α : Type} (c : α → α → Int) (a : Nat) : Nat → Nat → List α → List α
  | 0, _, l => l
  | n + 1, i, l => outN c a n (i + 1) (sift c a i l)
def isort {α : Type} (c : α → α → Int) (l : List α) : List α := outN c 0 (l.length - 1) 1 l
theorem sift_len {α : Type} (c : α → α → Int) (a : Nat) : ∀ (j : Nat) (l : List α), (sift c a j l).length = l.length
  | 0, l => rfl
  | j + 1, l => by
    simp only [sift]
    split
    · split
      · rw [sift_len c a j]; simp
      · rfl
    · rfl
theorem outN_len {α : Type} (c : α → α → Int) (a : Nat) : ∀ (n i : Nat) (l : List α), (outN c a n i l).length = l.length
  | 0, _, _ => rfl
  | n + 1, i, l => by simp only [outN]; rw [outN_len c a n, sift_len]
theorem isort_len {α : Type} (c : α → α → Int) (l : List α) : (isort c l).length = l.length := outN_len _ _ _ _ _
theorem sift_step {α : Type} {c : α → α → Int} {a j : Nat} {l : List α} {x y : α} (hx : l[j]? = some x) (hy : l[j - 1]? = some y) (h : a < j ∧ c x y < 0) : sift c a j l = sift c a (j - 1) ((l.set j y).set (j - 1) x) := by
  cases j with
  | zero => omega
  | succ j =>
    simp only [Nat.add_sub_cancel] at hy ⊢
    simp only [sift, hx, hy]
    rw [if_pos h]
theorem sift_stop {α : Type} {c : α → α → Int} {a j : Nat} {l : List α} {x y : α} (hx : l[j]? = some x) (hy : l[j - 1]? = some y) (h : j ≤ a ∨ 0 ≤ c x y) : sift c a j l = l := by
  cases j with
  | zero => rfl
  | succ j =>
    simp only [Nat.add_sub_cancel] at hy
    simp only [sift, hx, hy]
    rw [if_neg (by omega)]
theorem outN_step {α : Type} {c : α → α → Int} {a b i : Nat} {l : List α} (h : i < b) : outN c a (b - i) i l = outN c a (b - (i + 1)) (i + 1) (sift c a i l) := by
  rw [show b - i = (b - (i + 1)) + 1 by omega]; rfl

/- slices.insertionSortCmpFunc[tidepool/agg.Row] -/
set_option maxRecDepth 100000 in
theorem F183 (c : Rw → Rw → Int) (fc : FuncId) (first caps : List Value) (hc : ∀ x y : Rw, FnP Try.prog fc (first.map is ++ [is (.agg #[.string x.1.1, .int .i64 x.1.2.1, .int .i64 x.1.2.2, .int .i64 x.2.1, .int .i64 x.2.2.1, .int .i64 x.2.2.2.1, .int .i64 x.2.2.2.2]), is (.agg #[.string y.1.1, .int .i64 y.1.2.1, .int .i64 y.1.2.2, .int .i64 y.2.1, .int .i64 y.2.2.1, .int .i64 y.2.2.2.1, .int .i64 y.2.2.2.2])] ++ caps.map is) (is (.int .i64 (c x y)))) (v : Value) (xs : List Rw) (a b : Nat) (hb : b ≤ xs.length) (ha : a ≤ xs.length) (hl : xs.length ≤ 1000) : FnG Try.prog 183 [is v, is (.int .i64 a), is (.int .i64 b), is (.func (.func fc) first.toArray caps.toArray)] [] [Own rowR 142 v xs] (γ := Unit) (fun _ => Tup []) (fun _ => [Own rowR 142 v (outN c a (b - (a + 1)) (a + 1) xs)]) := by
  refine FnG.mk' Try.func183 T.nm183 rfl (N := 53) rfl rfl (t := 2) rfl fun B => ?_
  refine Tr.seq ?_
  refine Tr.region ?_
  refine TrL.stepS 10 (.plain rfl (.move rfl (.of rfl))) rfl rfl ?_
  refine TrL.stepS 11 (.plain rfl (.addI L.bd_i64 rfl (.of rfl) (.of rfl) (by omega) (by omega))) rfl rfl ?_
  refine TrL.stepS 8 (.plain rfl (.assign rfl (.of rfl))) rfl rfl ?_
  refine TrL.nil ?_
  refine Fin.keepG (Γ' := [(0, _), (1, _), (2, _), (3, _), (8, _)]) (.same rfl (.same rfl (.same rfl (.same rfl (.same rfl .nil))))) ?_
  refine Fin.next ?_
  refine Tr.block ?_
  refine Tr.loopK (γ := Nat × List Rw) (Γk := [(0, _), (1, _), (2, _), (3, _)]) (Mk := []) (.same rfl (.same rfl (.same rfl (.same rfl .nil)))) .nil (fun p => a + 1 ≤ p.1 ∧ p.1 ≤ xs.length + 1 ∧ p.2.length = xs.length ∧ outN c a (b - p.1) p.1 p.2 = outN c a (b - (a + 1)) (a + 1) xs) (fun p => fun r => (2, Own rowR 142 v p.2) :: r) (fun p => fun r => (8, is (.int .i64 p.1)) :: r) (fun p => b - p.1) ((a + 1, xs)) ?h0_0 ?hM_0 ?hG_0 ?hl_0
  case h0_0 => exact ⟨Nat.le_refl _, by (try dsimp only); omega, rfl, rfl⟩
  case hM_0 => exact (.same rfl .nil)
  case hG_0 => exact (.eq rfl (by first | rfl | (congr 1; first | done | omega | (push_cast; omega) | (push_cast; rfl))) (.same rfl (.same rfl (.same rfl (.same rfl .nil)))))
  case hl_0 =>
    intro p hI1
    obtain ⟨i, ds⟩ := p
    dsimp only at hI1 ⊢
    refine Tr.seq ?_
    refine Tr.seq ?_
    refine Tr.region ?_
    refine TrL.stepS 12 (.plain rfl (.move rfl (.of rfl))) rfl rfl ?_
    refine TrL.stepS 13 (.plain rfl (.move rfl (.of rfl))) rfl rfl ?_
    refine TrL.stepS 14 (.plain rfl (.lss rfl (.of rfl) (.of rfl))) rfl rfl ?_
    refine TrL.nil ?_
    refine Fin.keepG (Γ' := [(0, _), (1, _), (2, _), (3, _), (8, _), (14, _)]) (.same rfl (.same rfl (.same rfl (.same rfl (.same rfl (.same rfl .nil)))))) ?_
    refine Fin.next ?_
    refine Tr.cond rfl (fun hb0 => ?_) (fun hb0 => ?_)
    · try simp only [decide_eq_true_eq, decide_eq_false_iff_not, beq_iff_eq, beq_eq_false_iff_ne, bne_iff_ne, bne_eq_false_iff_eq, Bool.and_eq_true, Bool.and_eq_false_iff, Bool.or_eq_true, Bool.or_eq_false_iff, Bool.not_eq_true', Bool.not_eq_false', gt_iff_lt, ge_iff_le, Int.not_lt, Int.not_le, ne_eq, Int.natCast_nonneg, true_and, and_true, Decidable.not_not, not_true_eq_false, not_false_eq_true] at hb0
      refine Tr.skip ?_
      refine Fin.next ?_
      refine Tr.seq ?_
      refine Tr.block ?_
      refine Tr.seq ?_
      refine Tr.region ?_
      refine TrL.stepS 17 (.plain rfl (.move rfl (.of rfl))) rfl rfl ?_
      refine TrL.stepS 9 (.plain rfl (.assign rfl (.of rfl))) rfl rfl ?_
      refine TrL.nil ?_
      refine Fin.keepG (Γ' := [(0, _), (1, _), (2, _), (3, _), (8, _), (9, _)]) (.same rfl (.same rfl (.same rfl (.same rfl (.same rfl (.same rfl .nil)))))) ?_
      refine Fin.next ?_
      refine Tr.block ?_
      refine Tr.loopK (γ := Nat × List Rw) (Γk := [(0, _), (1, _), (2, _), (3, _), (8, _)]) (Mk := []) (.same rfl (.same rfl (.same rfl (.same rfl (.same rfl .nil))))) .nil (fun p => a ≤ p.1 ∧ p.1 ≤ i ∧ i < xs.length ∧ p.2.length = xs.length ∧ sift c a p.1 p.2 = sift c a i ds) (fun p => fun r => (2, Own rowR 142 v p.2) :: r) (fun p => fun r => (9, is (.int .i64 p.1)) :: r) (fun p => p.1) ((i, ds)) ?h0_1 ?hM_1 ?hG_1 ?hl_1
      case h0_1 => exact ⟨by (try dsimp only); omega, Nat.le_refl _, by (try dsimp only); omega, hI1.2.2.1, rfl⟩
      case hM_1 => exact (.same rfl .nil)
      case hG_1 => exact (.eq rfl (by first | rfl | (congr 1; first | done | omega | (push_cast; omega) | (push_cast; rfl))) (.same rfl (.same rfl (.same rfl (.same rfl (.same rfl .nil))))))
      case hl_1 =>
        intro p hI2
        obtain ⟨j, es⟩ := p
        dsimp only at hI2 ⊢
        obtain ⟨x, hx⟩ := ex_get (xs := es) (i := j) (by omega)
        obtain ⟨y, hy⟩ := ex_get (xs := es) (i := j - 1) (by omega)
        refine Tr.seq ?_
        refine Tr.seq ?_
        refine Tr.regionK T.mixed (by kernel_rfl) (by kernel_rfl) ?_
        refine ChainK.consS 18 (.plain rfl (.move rfl (.of rfl))) rfl ?_
        refine ChainK.consS 19 (.plain rfl (.move rfl (.of rfl))) rfl ?_
        refine ChainK.consS 20 (.plain rfl (.gtr rfl (.of rfl) (.of rfl))) rfl ?_
        refine ChainK.consS 21 (.plain rfl (.move rfl (.of rfl))) rfl ?_
        refine ChainK.consS 22 (.guarded rfl rfl rfl fun hg => .move rfl (.of rfl)) rfl ?_
        refine ChainK.consS 23 (.guarded rfl rfl rfl fun hg => .move rfl (.of rfl)) rfl ?_
        refine ChainK.consS 24 (.guarded rfl rfl rfl fun hg => .move rfl (.of rfl)) rfl ?_
        refine ChainK.consS 25 (.guarded rfl rfl rfl fun hg => .indexN 2 (j) rfl (.cond rfl hg) (.cond rfl hg) rfl Own.view rfl Try.underlying138 T.sz142 (by first | omega | (simp at hg; omega) | (simp at hg hp; omega)) (hx)) rfl ?_
        refine ChainK.consS 26 (.guarded rfl rfl rfl fun hg => .loadWV 2 (j) 0 7 (ds := [_, _, _, _, _, _, _]) rfl (.cond rfl hg) rfl Own.view rfl (hx) rfl rfl T.ag142) rfl ?_
        refine ChainK.consS 27 (.guarded rfl rfl rfl fun hg => .move rfl (.of rfl)) rfl ?_
        refine ChainK.consS 28 (.guarded rfl rfl rfl fun hg => .move rfl (.of rfl)) rfl ?_
        refine ChainK.consS 29 (.guarded rfl rfl rfl fun hg => .subI L.bd_i64 rfl (.cond rfl hg) (.of rfl) (by first | omega | (simp at hg; omega) | (simp at hg hp; omega)) (by first | omega | (simp at hg; omega) | (simp at hg hp; omega))) rfl ?_
        refine ChainK.consS 30 (.guarded rfl rfl rfl fun hg => .indexN 2 (j - 1) rfl (.cond rfl hg) (.cond rfl hg) rfl Own.view rfl Try.underlying138 T.sz142 (by first | omega | (simp at hg; omega) | (simp at hg hp; omega)) (hy)) rfl ?_
        refine ChainK.consS 31 (.guarded rfl rfl rfl fun hg => .loadWV 2 (j - 1) 0 7 (ds := [_, _, _, _, _, _, _]) rfl (.cond rfl hg) rfl Own.view rfl (hy) rfl rfl T.ag142) rfl ?_
        refine ChainK.consS 32 (.guarded rfl rfl rfl fun hg => .callV (first := first) (caps := caps) rfl (.cond rfl hg) (hc x y) (.cons (.cond rfl hg) (.cons (.cond rfl hg) .nil))) rfl ?_
        refine ChainK.consS 33 (.guarded rfl rfl rfl fun hg => .lss rfl (.cond rfl hg) (.of rfl)) rfl ?_
        refine ChainK.consS 34 (.plain rfl (.and rfl (.of rfl) (.cond rfl fun h => h))) rfl ?_
        refine ChainK.nil ?_
        refine Fin.keepG (Γ' := [(0, _), (1, _), (2, _), (3, _), (8, _), (9, _), (34, _)]) (.same rfl (.same rfl (.same rfl (.same rfl (.same rfl (.same rfl (.same rfl .nil))))))) ?_
        refine Fin.next ?_
        refine Tr.cond rfl (fun hb1 => ?_) (fun hb1 => ?_)
        · try simp only [decide_eq_true_eq, decide_eq_false_iff_not, beq_iff_eq, beq_eq_false_iff_ne, bne_iff_ne, bne_eq_false_iff_eq, Bool.and_eq_true, Bool.and_eq_false_iff, Bool.or_eq_true, Bool.or_eq_false_iff, Bool.not_eq_true', Bool.not_eq_false', gt_iff_lt, ge_iff_le, Int.not_lt, Int.not_le, ne_eq, Int.natCast_nonneg, true_and, and_true, Decidable.not_not, not_true_eq_false, not_false_eq_true] at hb1
          refine Tr.skip ?_
          refine Fin.next ?_
          refine Tr.seq ?_
          refine Tr.block ?_
          refine Tr.regionW [([], [], []), ([], [], []), ([], [], []), ([], [], []), ([], [], []), ([], [], []), ([], [], []), ([], [], []), ([2], [], []), ([2], [], []), ([], [], []), ([], [], []), ([2], [], []), ([2], [], []), ([2], [], []), ([2], [2], []), ([2], [], []), ([2], [2], [])] T.mixed (by kernel_rfl) (by kernel_rfl) (by kernel_rfl) (by kernel_rfl) ?_
          refine AChain.rd 37 rfl (fun σ => .plain rfl (.move rfl (.of rfl))) rfl rfl (fun _ _ => rfl) (L.Dep.const) ?_
          refine AChain.rd 38 rfl (fun σ => .plain rfl (.move rfl (.of rfl))) rfl rfl (fun _ _ => rfl) (L.Dep.const) ?_
          refine AChain.rd 39 rfl (fun σ => .plain rfl (.move rfl (.of rfl))) rfl rfl (fun _ _ => rfl) (L.Dep.const) ?_
          refine AChain.rd 40 rfl (fun σ => .plain rfl (.move rfl (.of rfl))) rfl rfl (fun _ _ => rfl) (L.Dep.const) ?_
          refine AChain.rd 41 rfl (fun σ => .plain rfl (.subI L.bd_i64 rfl (.of rfl) (.of rfl) (by omega) (by omega))) rfl rfl (fun _ _ => rfl) (L.Dep.const) ?_
          refine AChain.rd 42 rfl (fun σ => .plain rfl (.move rfl (.of rfl))) rfl rfl (fun _ _ => rfl) (L.Dep.const) ?_
          refine AChain.rd 43 rfl (fun σ => .plain rfl (.move rfl (.of rfl))) rfl rfl (fun _ _ => rfl) (L.Dep.const) ?_
          refine AChain.rd 44 rfl (fun σ => .plain rfl (.subI L.bd_i64 rfl (.of rfl) (.of rfl) (by omega) (by omega))) rfl rfl (fun _ _ => rfl) (L.Dep.const) ?_
          refine AChain.rd 45 rfl (fun σ => .plain rfl (.indexN 2 (j - 1) rfl (.of rfl) (.of rfl) rfl Own.view rfl Try.underlying138 T.sz142 (by omega) (hy))) rfl rfl (fun _ _ => rfl) (L.Dep.const) ?_
          refine AChain.rd 46 rfl (fun σ => .plain rfl (.loadWV 2 (j - 1) 0 7 (ds := [_, _, _, _, _, _, _]) rfl (.of rfl) rfl Own.view rfl (hy) rfl rfl T.ag142)) rfl rfl (fun _ _ => rfl) (L.Dep.const) ?_
          refine AChain.rd 47 rfl (fun σ => .plain rfl (.move rfl (.of rfl))) rfl rfl (fun _ _ => rfl) (L.Dep.const) ?_
          refine AChain.rd 48 rfl (fun σ => .plain rfl (.move rfl (.of rfl))) rfl rfl (fun _ _ => rfl) (L.Dep.const) ?_
          refine AChain.rd 49 rfl (fun σ => .plain rfl (.indexN 2 (j) rfl (.of rfl) (.of rfl) rfl Own.view rfl Try.underlying138 T.sz142 (by omega) (hx))) rfl rfl (fun _ _ => rfl) (L.Dep.const) ?_
          refine AChain.rd 50 rfl (fun σ => .plain rfl (.loadWV 2 (j) 0 7 (ds := [_, _, _, _, _, _, _]) rfl (.of rfl) rfl Own.view rfl (hx) rfl rfl T.ag142)) rfl rfl (fun _ _ => rfl) (L.Dep.const) ?_
          refine AChain.rd 51 rfl (fun σ => .plain rfl (.indexN 2 (j) rfl (.of rfl) (.of rfl) rfl Own.view rfl Try.underlying138 T.sz142 (by omega) (hx))) rfl rfl (fun _ _ => rfl) (L.Dep.const) ?_
          refine AChain.wr1 2 rfl rfl rfl rfl (fun w0 κ0 σ => TrL.storeO 2 (j) 0 (z' := y) rfl rfl rfl (.of rfl) (.of rfl) (L.hRis (cs := [_, _, _, _, _, _, _]) rfl) rfl rfl (hx) rfl rfl T.sz142 (TrL.done0 (.free rfl .nil))) ?_
          refine AChain.rd 52 rfl (fun σ => .plain rfl (.indexN 2 (j - 1) rfl (.of rfl) (.of rfl) rfl Own.view rfl Try.underlying138 T.sz142 (by omega) (by rw [List.getElem?_set_ne (by omega)]; exact hy))) rfl rfl (fun _ _ => rfl) (L.Dep.const) ?_
          refine AChain.wr1 2 rfl rfl rfl rfl (fun w0 κ0 σ => TrL.storeO 2 (j - 1) 0 (z' := x) rfl rfl rfl (.of rfl) (.of rfl) (L.hRis (cs := [_, _, _, _, _, _, _]) rfl) rfl rfl (by rw [List.getElem?_set_ne (by omega)]; exact hy) rfl rfl T.sz142 (TrL.done0 (.free rfl .nil))) ?_
          refine AChain.nil ?_
          intro s6
          refine Fin.keepG (Γ' := [(0, _), (1, _), (2, _), (3, _), (8, _), (9, _)]) (.same rfl (.same rfl (.same rfl (.same rfl (.same rfl (.same rfl .nil)))))) ?_
          refine Fin.blockNormal ?_
          refine Fin.next ?_
          refine Tr.region ?_
          refine TrL.stepS 35 (.plain rfl (.move rfl (.of rfl))) rfl rfl ?_
          refine TrL.stepS 36 (.plain rfl (.subI L.bd_i64 rfl (.of rfl) (.of rfl) (by omega) (by omega))) rfl rfl ?_
          refine TrL.stepS 9 (.plain rfl (.assign rfl (.of rfl))) rfl rfl ?_
          refine TrL.nil ?_
          refine Fin.keepG (Γ' := [(0, _), (1, _), (2, _), (3, _), (8, _), (9, _)]) (.same rfl (.same rfl (.same rfl (.same rfl (.same rfl (.same rfl .nil)))))) ?_
          exact Fin.again ((j - 1, (es.set j y).set (j - 1) x)) (⟨by dsimp only; omega, by dsimp only; omega, hI2.2.2.1, by simpa using hI2.2.2.2.1, by dsimp only; rw [← hI2.2.2.2.2, sift_step hx hy ⟨by have := hb1.1; omega, hb1.2⟩]⟩) (by dsimp only; omega) (.same rfl .nil) (.eq rfl (by first | rfl | (congr 1; first | done | omega | (push_cast; omega) | (push_cast; rfl))) (.same rfl (.same rfl (.same rfl (.same rfl (.same rfl .nil))))))
        · try simp only [decide_eq_true_eq, decide_eq_false_iff_not, beq_iff_eq, beq_eq_false_iff_ne, bne_iff_ne, bne_eq_false_iff_eq, Bool.and_eq_true, Bool.and_eq_false_iff, Bool.or_eq_true, Bool.or_eq_false_iff, Bool.not_eq_true', Bool.not_eq_false', gt_iff_lt, ge_iff_le, Int.not_lt, Int.not_le, ne_eq, Int.natCast_nonneg, true_and, and_true, Decidable.not_not, not_true_eq_false, not_false_eq_true] at hb1
          refine Tr.exit ?_
          refine Fin.thenExit ?_
          refine Fin.thenExit ?_
          refine Fin.blockOut ?_
          refine Fin.blockNormal ?_
          refine Fin.next ?_
          refine Tr.region ?_
          refine TrL.stepS 15 (.plain rfl (.move rfl (.of rfl))) rfl rfl ?_
          refine TrL.stepS 16 (.plain rfl (.addI L.bd_i64 rfl (.of rfl) (.of rfl) (by omega) (by omega))) rfl rfl ?_
          refine TrL.stepS 8 (.plain rfl (.assign rfl (.of rfl))) rfl rfl ?_
          refine TrL.nil ?_
          refine Fin.keepG (Γ' := [(0, _), (1, _), (2, _), (3, _), (8, _)]) (.same rfl (.same rfl (.same rfl (.same rfl (.same rfl .nil))))) ?_
          exact Fin.again ((i + 1, es)) (⟨by dsimp only; omega, by dsimp only; omega, hI2.2.2.2.1, by dsimp only; rw [← hI1.2.2.2, outN_step (show i < b by omega), ← hI2.2.2.2.2, sift_stop hx hy (by omega)]⟩) (by dsimp only; omega) (.same rfl .nil) (.eq rfl (by first | rfl | (congr 1; first | done | omega | (push_cast; omega) | (push_cast; rfl))) (.same rfl (.same rfl (.same rfl (.same rfl .nil)))))
    · try simp only [decide_eq_true_eq, decide_eq_false_iff_not, beq_iff_eq, beq_eq_false_iff_ne, bne_iff_ne, bne_eq_false_iff_eq, Bool.and_eq_true, Bool.and_eq_false_iff, Bool.or_eq_true, Bool.or_eq_false_iff, Bool.not_eq_true', Bool.not_eq_false', gt_iff_lt, ge_iff_le, Int.not_lt, Int.not_le, ne_eq, Int.natCast_nonneg, true_and, and_true, Decidable.not_not, not_true_eq_false, not_false_eq_true] at hb0
      refine Tr.exit ?_
      refine Fin.thenExit ?_
      refine Fin.thenExit ?_
      refine Fin.blockOut ?_
      exact Fin.retGIN 2 rfl (()) [2] (rs := []) rfl .nil .nil rfl (.cons rfl (fun F L w h => by rw [show b - i = 0 by omega] at hI1; rw [← hI1.2.2.2]; exact h) .nil) rfl

/- slices.stableCmpFunc[tidepool/agg.Row] -/
set_option maxRecDepth 100000 in
theorem F171 (c : Rw → Rw → Int) (fc : FuncId) (first caps : List Value) (hc : ∀ x y : Rw, FnP Try.prog fc (first.map is ++ [is (.agg #[.string x.1.1, .int .i64 x.1.2.1, .int .i64 x.1.2.2, .int .i64 x.2.1, .int .i64 x.2.2.1, .int .i64 x.2.2.2.1, .int .i64 x.2.2.2.2]), is (.agg #[.string y.1.1, .int .i64 y.1.2.1, .int .i64 y.1.2.2, .int .i64 y.2.1, .int .i64 y.2.2.1, .int .i64 y.2.2.2.1, .int .i64 y.2.2.2.2])] ++ caps.map is) (is (.int .i64 (c x y)))) (v : Value) (xs : List Rw) (hl : xs.length ≤ 20) : FnG Try.prog 171 [is v, is (.int .i64 xs.length), is (.func (.func fc) first.toArray caps.toArray)] [] [Own rowR 142 v xs] (γ := Unit) (fun _ => Tup []) (fun _ => [Own rowR 142 v (isort c xs)]) := by
  refine FnG.mk' Try.func171 T.nm171 rfl (N := 63) rfl rfl (t := 2) rfl fun B => ?_
  refine Tr.seq ?_
  refine Tr.region ?_
  refine TrL.stepS 6 (.plain rfl (.assign rfl (.of rfl))) rfl rfl ?_
  refine TrL.nil ?_
  refine Fin.next ?_
  refine Tr.seq ?_
  refine Tr.region ?_
  refine TrL.stepS 10 (.plain rfl (.move rfl (.of rfl))) rfl rfl ?_
  refine TrL.stepS 7 (.plain rfl (.assign rfl (.of rfl))) rfl rfl ?_
  refine TrL.stepS 8 (.plain rfl (.assign rfl (.of rfl))) rfl rfl ?_
  refine TrL.nil ?_
  refine Fin.keepG (Γ' := [(0, _), (1, _), (2, _), (6, _), (7, _), (8, _)]) (.same rfl (.same rfl (.same rfl (.same rfl (.same rfl (.same rfl .nil)))))) ?_
  refine Fin.next ?_
  refine Tr.seq ?_
  refine Tr.block ?_
  refine Tr.loopK (γ := Nat × List Rw) (Γk := [(0, _), (1, _), (2, _), (6, _)]) (Mk := []) (.same rfl (.same rfl (.same rfl (.same rfl .nil)))) .nil (fun p => (p.1 = 0 ∧ xs = p.2) ∨ (p.1 = 20 ∧ xs.length = 20 ∧ isort c xs = p.2)) (fun p => fun r => (2, Own rowR 142 v p.2) :: r) (fun p => fun r => (7, is (.int .i64 p.1)) :: (8, is (.int .i64 ((p.1 : Int) + 20))) :: r) (fun p => 40 - p.1) ((0, xs)) ?h0_0 ?hM_0 ?hG_0 ?hl_0
  case h0_0 => exact .inl ⟨rfl, rfl⟩
  case hM_0 => exact (.same rfl .nil)
  case hG_0 => exact (.eq rfl (by first | rfl | (congr 1; first | done | omega | (push_cast; omega) | (push_cast; rfl))) (.eq rfl (by first | rfl | (congr 1; first | done | omega | (push_cast; omega) | (push_cast; rfl))) (.same rfl (.same rfl (.same rfl (.same rfl .nil))))))
  case hl_0 =>
    intro p hI
    obtain ⟨a, ds⟩ := p
    dsimp only at hI ⊢
    refine Tr.seq ?_
    refine Tr.seq ?_
    refine Tr.region ?_
    refine TrL.stepS 11 (.plain rfl (.move rfl (.of rfl))) rfl rfl ?_
    refine TrL.stepS 12 (.plain rfl (.move rfl (.of rfl))) rfl rfl ?_
    refine TrL.stepS 13 (.plain rfl (.leq rfl (.of rfl) (.of rfl))) rfl rfl ?_
    refine TrL.nil ?_
    refine Fin.keepG (Γ' := [(0, _), (1, _), (2, _), (6, _), (7, _), (8, _), (13, _)]) (.same rfl (.same rfl (.same rfl (.same rfl (.same rfl (.same rfl (.same rfl .nil))))))) ?_
    refine Fin.next ?_
    refine Tr.cond rfl (fun hb0 => ?_) (fun hb0 => ?_)
    · try simp only [decide_eq_true_eq, decide_eq_false_iff_not, beq_iff_eq, beq_eq_false_iff_ne, bne_iff_ne, bne_eq_false_iff_eq, Bool.and_eq_true, Bool.and_eq_false_iff, Bool.or_eq_true, Bool.or_eq_false_iff, Bool.not_eq_true', Bool.not_eq_false', gt_iff_lt, ge_iff_le, Int.not_lt, Int.not_le, ne_eq, Int.natCast_nonneg, true_and, and_true, Decidable.not_not, not_true_eq_false, not_false_eq_true] at hb0
      have h20 : xs.length = 20 := by omega
      obtain ⟨rfl, rfl⟩ : a = 0 ∧ xs = ds := by rcases hI with h | h; exact h; omega
      refine Tr.skip ?_
      refine Fin.next ?_
      refine Tr.block ?_
      refine Tr.seq ?_
      refine Tr.region ?_
      refine TrL.stepS 14 (.plain rfl (.move rfl (.of rfl))) rfl rfl ?_
      refine TrL.stepS 15 (.plain rfl (.move rfl (.of rfl))) rfl rfl ?_
      refine TrL.stepS 16 (.plain rfl (.move rfl (.of rfl))) rfl rfl ?_
      refine TrL.stepS 17 (.plain rfl (.move rfl (.of rfl))) rfl rfl ?_
      refine TrL.callG [] [2] [2] rfl rfl 18 rfl rfl (F183 c fc first caps hc v xs 0 20 (by omega) (by omega) (by omega)) (.cons (.of rfl) (.cons (.of rfl) (.cons (.of rfl) (.cons (.of rfl) .nil)))) (.same rfl .nil) rfl rfl (fun _ => rfl) fun _ => ?_
      refine TrL.nil ?_
      refine Fin.keepG (Γ' := [(0, _), (1, _), (2, _), (6, _), (8, _)]) (.same rfl (.same rfl (.same rfl (.same rfl (.same rfl .nil))))) ?_
      refine Fin.next ?_
      refine Tr.seq ?_
      refine Tr.region ?_
      refine TrL.stepS 19 (.plain rfl (.move rfl (.of rfl))) rfl rfl ?_
      refine TrL.stepS 7 (.plain rfl (.assign rfl (.of rfl))) rfl rfl ?_
      refine TrL.nil ?_
      refine Fin.keepG (Γ' := [(0, _), (1, _), (2, _), (6, _), (7, _), (8, _)]) (.same rfl (.same rfl (.same rfl (.same rfl (.same rfl (.same rfl .nil)))))) ?_
      refine Fin.next ?_
      refine Tr.region ?_
      refine TrL.stepS 20 (.plain rfl (.move rfl (.of rfl))) rfl rfl ?_
      refine TrL.stepS 21 (.plain rfl (.move rfl (.of rfl))) rfl rfl ?_
      first | refine TrL.stepS 22 (.plain rfl (.addI L.bd_i64 rfl (.of rfl) (.of rfl) (by omega) (by omega))) rfl rfl ?_ | refine TrL.stepS 22 (.plain rfl (.add rfl (.of rfl) (.of rfl))) rfl rfl ?_
      refine TrL.stepS 8 (.plain rfl (.assign rfl (.of rfl))) rfl rfl ?_
      refine TrL.nil ?_
      refine Fin.keepG (Γ' := [(0, _), (1, _), (2, _), (6, _), (7, _), (8, _)]) (.same rfl (.same rfl (.same rfl (.same rfl (.same rfl (.same rfl .nil)))))) ?_
      refine Fin.blockNormal ?_
      exact Fin.again ((20, isort c xs)) (.inr ⟨rfl, by omega, rfl⟩) (by dsimp only; omega) (.cons rfl (fun F L w h => by have e : isort c xs = outN c 0 (20 - (0 + 1)) (0 + 1) xs := (by unfold isort; rw [h20]); dsimp only; rw [e]; exact h) .nil) (.eq rfl (by first | rfl | (congr 1; first | done | omega | (push_cast; omega) | (push_cast; rfl))) (.eq rfl (by first | rfl | (congr 1; first | done | omega | (push_cast; omega) | (push_cast; rfl))) (.same rfl (.same rfl (.same rfl (.same rfl .nil))))))
    · try simp only [decide_eq_true_eq, decide_eq_false_iff_not, beq_iff_eq, beq_eq_false_iff_ne, bne_iff_ne, bne_eq_false_iff_eq, Bool.and_eq_true, Bool.and_eq_false_iff, Bool.or_eq_true, Bool.or_eq_false_iff, Bool.not_eq_true', Bool.not_eq_false', gt_iff_lt, ge_iff_le, Int.not_lt, Int.not_le, ne_eq, Int.natCast_nonneg, true_and, and_true, Decidable.not_not, not_true_eq_false, not_false_eq_true] at hb0
      have hfin : outN c a (xs.length - (a + 1)) (a + 1) ds = isort c xs := by
        rcases hI with ⟨rfl, rfl⟩ | ⟨rfl, h20, rfl⟩
        · rfl
        · rw [h20]; rfl
      have hds : ds.length = xs.length := by rcases hI with ⟨_, rfl⟩ | ⟨_, _, rfl⟩; rfl; exact isort_len c xs
      refine Tr.exit ?_
      refine Fin.thenExit ?_
      refine Fin.thenExit ?_
      refine Fin.blockOut ?_
      refine Fin.next ?_
      refine Tr.seq ?_
      refine Tr.region ?_
      refine TrL.stepS 23 (.plain rfl (.move rfl (.of rfl))) rfl rfl ?_
      refine TrL.stepS 24 (.plain rfl (.move rfl (.of rfl))) rfl rfl ?_
      refine TrL.stepS 25 (.plain rfl (.move rfl (.of rfl))) rfl rfl ?_
      refine TrL.stepS 26 (.plain rfl (.move rfl (.of rfl))) rfl rfl ?_
      refine TrL.callG [] [2] [2] rfl rfl 27 rfl rfl (F183 c fc first caps hc v ds a xs.length (by omega) (by rcases hI with ⟨rfl, _⟩ | ⟨rfl, h2, _⟩ <;> omega) (by omega)) (.cons (.of rfl) (.cons (.of rfl) (.cons (.of rfl) (.cons (.of rfl) .nil)))) (.same rfl .nil) rfl rfl (fun _ => rfl) fun _ => ?_
      refine TrL.nil ?_
      refine Fin.keepG (Γ' := [(0, _), (1, _), (2, _), (6, _)]) (.same rfl (.same rfl (.same rfl (.same rfl .nil)))) ?_
      refine Fin.next ?_
      refine Tr.block ?_
      refine Tr.loopK (γ := Unit) (Γk := [(0, _), (1, _), (2, _)]) (Mk := [(2, _)]) (.same rfl (.same rfl (.same rfl .nil))) (.same rfl .nil) (fun _ => True) (fun _ => fun r => r) (fun _ => fun r => (6, is (.int .i64 20)) :: r) (fun _ => 0) (()) ?h0_1 ?hM_1 ?hG_1 ?hl_1
      case h0_1 => first | trivial | (dsimp only; omega) | exact ⟨by omega, by simp⟩
      case hM_1 => exact (.same rfl .nil)
      case hG_1 => exact (.eq rfl (by first | rfl | (congr 1; first | done | omega | (push_cast; omega) | (push_cast; rfl))) (.same rfl (.same rfl (.same rfl .nil))))
      case hl_1 =>
        intro _ hI
        refine Tr.seq ?_
        refine Tr.seq ?_
        refine Tr.region ?_
        refine TrL.stepS 28 (.plain rfl (.move rfl (.of rfl))) rfl rfl ?_
        refine TrL.stepS 29 (.plain rfl (.move rfl (.of rfl))) rfl rfl ?_
        refine TrL.stepS 30 (.plain rfl (.lss rfl (.of rfl) (.of rfl))) rfl rfl ?_
        refine TrL.nil ?_
        refine Fin.keepG (Γ' := [(0, _), (1, _), (2, _), (6, _), (30, _)]) (.same rfl (.same rfl (.same rfl (.same rfl (.same rfl .nil))))) ?_
        refine Fin.next ?_
        refine Tr.cond rfl (fun hb1 => ?_) (fun hb1 => ?_)
        · try simp only [decide_eq_true_eq, decide_eq_false_iff_not, beq_iff_eq, beq_eq_false_iff_ne, bne_iff_ne, bne_eq_false_iff_eq, Bool.and_eq_true, Bool.and_eq_false_iff, Bool.or_eq_true, Bool.or_eq_false_iff, Bool.not_eq_true', Bool.not_eq_false', gt_iff_lt, ge_iff_le, Int.not_lt, Int.not_le, ne_eq, Int.natCast_nonneg, true_and, and_true, Decidable.not_not, not_true_eq_false, not_false_eq_true] at hb1
          omega
        · try simp only [decide_eq_true_eq, decide_eq_false_iff_not, beq_iff_eq, beq_eq_false_iff_ne, bne_iff_ne, bne_eq_false_iff_eq, Bool.and_eq_true, Bool.and_eq_false_iff, Bool.or_eq_true, Bool.or_eq_false_iff, Bool.not_eq_true', Bool.not_eq_false', gt_iff_lt, ge_iff_le, Int.not_lt, Int.not_le, ne_eq, Int.natCast_nonneg, true_and, and_true, Decidable.not_not, not_true_eq_false, not_false_eq_true] at hb1
          refine Tr.exit ?_
          refine Fin.thenExit ?_
          refine Fin.thenExit ?_
          refine Fin.blockOut ?_
          exact Fin.retGIN 2 rfl (()) [2] (rs := []) rfl .nil .nil rfl (.cons rfl (fun F L w h => by rw [← hfin]; exact h) .nil) rfl

/- slices.SortStableFunc[[]tidepool/agg.Row,tidepool/agg.Row] -/
set_option maxRecDepth 100000 in
theorem F140 (c : Rw → Rw → Int) (fc : FuncId) (first caps : List Value) (hc : ∀ x y : Rw, FnP Try.prog fc (first.map is ++ [is (.agg #[.string x.1.1, .int .i64 x.1.2.1, .int .i64 x.1.2.2, .int .i64 x.2.1, .int .i64 x.2.2.1, .int .i64 x.2.2.2.1, .int .i64 x.2.2.2.2]), is (.agg #[.string y.1.1, .int .i64 y.1.2.1, .int .i64 y.1.2.2, .int .i64 y.2.1, .int .i64 y.2.2.1, .int .i64 y.2.2.2.1, .int .i64 y.2.2.2.2])] ++ caps.map is) (is (.int .i64 (c x y)))) (v : Value) (xs : List Rw) (hl : xs.length ≤ 20) : FnG Try.prog 140 [is v, is (.func (.func fc) first.toArray caps.toArray)] [] [Own rowR 142 v xs] (γ := Unit) (fun _ => Tup []) (fun _ => [Own rowR 142 v (isort c xs)]) := by
  refine FnG.mk' Try.func140 T.nm140 rfl (N := 9) rfl rfl (t := 2) rfl fun B => ?_
  refine Tr.region ?_
  refine TrL.stepS 4 (.plain rfl (.move rfl (.of rfl))) rfl rfl ?_
  refine TrL.stepS 5 (.plain rfl (.move rfl (.of rfl))) rfl rfl ?_
  refine TrL.stepS 6 (.plain rfl (.lenV 2 rfl (.of rfl) rfl Own.view rfl Try.underlying138)) rfl rfl ?_
  refine TrL.stepS 7 (.plain rfl (.move rfl (.of rfl))) rfl rfl ?_
  refine TrL.callG [] [2] [2] rfl rfl 8 rfl rfl (F171 c fc first caps hc v xs hl) (.cons (.of rfl) (.cons (.of rfl) (.cons (.of rfl) .nil))) (.same rfl .nil) rfl rfl (fun _ => rfl) fun _ => ?_
  refine TrL.nil ?_
  refine Fin.keepG (Γ' := []) .nil ?_
  exact Fin.retGIN 2 rfl (()) [2] (rs := []) rfl .nil .nil rfl ((.same rfl .nil)) rfl

/- slices.Clone[[]tidepool/agg.Row,tidepool/agg.Row] -/
set_option maxRecDepth 100000 in
theorem F139 (xs : List Rw) (hl : xs.length ≤ 1048576) : FnG Try.prog 139 [Lst rowR xs] [] [] (γ := Value) (fun v => is v) (fun v => [Own rowR 142 v xs]) := by
  refine FnG.mk' Try.func139 T.nm139 rfl (N := 8) rfl rfl (t := 2) rfl fun B => ?_
  refine Tr.seq ?_
  refine Tr.region ?_
  refine TrL.stepS 2 (.plain rfl (.assign rfl (.of rfl))) rfl rfl ?_
  refine TrL.nil ?_
  refine Fin.keepG (Γ' := [(0, _)]) (.same rfl .nil) ?_
  refine Fin.next ?_
  refine Tr.seq ?_
  refine Tr.seq ?_
  refine Tr.region ?_
  refine TrL.stepS 3 (.plain rfl (.move rfl (.of rfl))) rfl rfl ?_
  refine TrL.stepS 4 (.plain rfl (.eqlLN rfl (.of rfl) (.of rfl) Try.underlying138)) rfl rfl ?_
  refine TrL.nil ?_
  refine Fin.keepG (Γ' := [(0, _), (4, _)]) (.same rfl (.same rfl .nil)) ?_
  refine Fin.exP 4 rfl fun b hb => ?_
  refine Fin.next ?_
  refine Tr.cond rfl (fun hb0 => ?_) (fun hb0 => ?_)
  · try simp only [decide_eq_true_eq, decide_eq_false_iff_not, beq_iff_eq, beq_eq_false_iff_ne, bne_iff_ne, bne_eq_false_iff_eq, Bool.and_eq_true, Bool.and_eq_false_iff, Bool.or_eq_true, Bool.or_eq_false_iff, Bool.not_eq_true', Bool.not_eq_false', gt_iff_lt, ge_iff_le, Int.not_lt, Int.not_le, ne_eq, Int.natCast_nonneg, true_and, and_true, Decidable.not_not, not_true_eq_false, not_false_eq_true] at hb0
    refine Tr.seq ?_
    refine Tr.region ?_
    refine TrL.stepS 2 (.plain rfl (.assign rfl (.of rfl))) rfl rfl ?_
    refine TrL.nil ?_
    refine Fin.keepG (Γ' := [(2, _)]) (.same rfl .nil) ?_
    refine Fin.next ?_
    refine Tr.ret ?_
    refine Fin.thenRet ?_
    refine Fin.own0 30 rowR 142 rfl ?_
    exact Fin.retGI 2 rfl (.slice none 0 0) [30] (rs := [_]) rfl (.cons (.tmp rfl) .nil) (.cons (L.iv rfl) .nil) rfl (.cons rfl (fun F L w h => by rw [hb hb0]; exact h) .nil) rfl
  · try simp only [decide_eq_true_eq, decide_eq_false_iff_not, beq_iff_eq, beq_eq_false_iff_ne, bne_iff_ne, bne_eq_false_iff_eq, Bool.and_eq_true, Bool.and_eq_false_iff, Bool.or_eq_true, Bool.or_eq_false_iff, Bool.not_eq_true', Bool.not_eq_false', gt_iff_lt, ge_iff_le, Int.not_lt, Int.not_le, ne_eq, Int.natCast_nonneg, true_and, and_true, Decidable.not_not, not_true_eq_false, not_false_eq_true] at hb0
    refine Tr.skip ?_
    refine Fin.next ?_
    refine Tr.seq ?_
    refine Tr.region ?_
    refine TrL.sliceOwn 20 (K := rowR) (xs := []) rfl rfl 5 rfl rfl .nil Try.underlying138 T.sz142 T.zb142 rfl (by decide) rfl fun v5 hv5 => ?_
    refine TrL.stepS 6 (.plain rfl (.move rfl (.of rfl))) rfl rfl ?_
    refine TrL.appendG 20 (bytes := 64) rfl rfl 7 rfl rfl (.of rfl) rfl rfl (.of rfl) Try.underlying138 T.sz142 T.el142 (by simp; omega) (by simp only [maxLen, List.length_append, List.length_cons, List.length_nil, List.length_map, List.length_take]; omega) fun v7 => ?_
    refine TrL.stepS 2 (.plain rfl (.assign rfl (.of rfl))) rfl rfl ?_
    refine TrL.nil ?_
    refine Fin.keepG (Γ' := [(2, _)]) (.same rfl .nil) ?_
    refine Fin.next ?_
    refine Tr.ret ?_
    exact Fin.retGI 2 rfl (v7) [20] (rs := [_]) rfl (.cons (.tmp rfl) .nil) (.cons (L.iv rfl) .nil) rfl (.cons rfl (fun F L w h => by simpa using h) .nil) rfl

/- (tidepool/agg.sorter).compare -/
set_option maxRecDepth 100000 in
theorem F141 (c : Pn → Pn → Int) (fo : FuncId) (hc : ∀ x y : Pn, FnP Try.prog fo [is (.agg #[.string x.1, .int .i64 x.2.1, .int .i64 x.2.2]), is (.agg #[.string y.1, .int .i64 y.2.1, .int .i64 y.2.2])] (is (.int .i64 (c x y)))) (a b : Rw) : FnP Try.prog 141 [is (.agg #[.func (.func fo) #[] #[]]), is (.agg #[.string a.1.1, .int .i64 a.1.2.1, .int .i64 a.1.2.2, .int .i64 a.2.1, .int .i64 a.2.2.1, .int .i64 a.2.2.2.1, .int .i64 a.2.2.2.2]), is (.agg #[.string b.1.1, .int .i64 b.1.2.1, .int .i64 b.1.2.2, .int .i64 b.2.1, .int .i64 b.2.2.1, .int .i64 b.2.2.2.1, .int .i64 b.2.2.2.2])] (is (.int .i64 (c a.1 b.1))) := by
  refine FnP.mk' Try.func141 T.nm141 rfl (N := 14) rfl rfl fun B hB hκ => ?_
  refine Tr.seq ?_
  refine Tr.region ?_
  refine TrL.stepS 3 (.plain rfl (.boxR rfl (.of rfl))) rfl rfl ?_
  refine TrL.stepS 4 (.plain rfl (.boxR rfl (.of rfl))) rfl rfl ?_
  refine TrL.stepS 5 (.plain rfl (.boxR rfl (.of rfl))) rfl rfl ?_
  refine TrL.stepS 6 (.plain rfl (.assign rfl (.of rfl))) rfl rfl ?_
  refine TrL.nil ?_
  refine Fin.keepG (Γ' := [(3, _), (4, _), (5, _)]) (.same rfl (.same rfl (.same rfl .nil))) ?_
  refine Fin.next ?_
  refine Tr.seq ?_
  refine Tr.region ?_
  refine TrL.stepS 7 (.plain rfl (.fieldC rfl (.of rfl) T.fl213_0)) rfl rfl ?_
  refine TrL.stepS 8 (.plain rfl (.load1 rfl (.of rfl) T.sc146)) rfl rfl ?_
  refine TrL.stepS 9 (.plain rfl (.fieldC rfl (.of rfl) T.fl142_0)) rfl rfl ?_
  refine TrL.stepS 10 (.plain rfl (.load3 rfl (.of rfl) T.ag140)) rfl rfl ?_
  refine TrL.stepS 11 (.plain rfl (.fieldC rfl (.of rfl) T.fl142_0)) rfl rfl ?_
  refine TrL.stepS 12 (.plain rfl (.load3 rfl (.of rfl) T.ag140)) rfl rfl ?_
  refine TrL.stepS 13 (.plain rfl (.callV (first := []) (caps := []) rfl (.of rfl) (hc a.1 b.1) (.cons (.of rfl) (.cons (.of rfl) .nil)))) rfl rfl ?_
  refine TrL.stepS 6 (.plain rfl (.assign rfl (.of rfl))) rfl rfl ?_
  refine TrL.nil ?_
  refine Fin.keepG (Γ' := [(6, _)]) (.same rfl .nil) ?_
  refine Fin.next ?_
  refine Tr.ret ?_
  exact Fin.retI (rs := [_]) (Rs' := [is (.int .i64 (c a.1 b.1))]) rfl (.cons (.tmp rfl) .nil) (.cons (L.iv rfl) .nil)

end Go.Proofs.Ytemkogoclljhpaa