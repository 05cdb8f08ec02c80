import Derived.Test.YtemkogoclljhpaaH3
namespace Go.Proofs.Ytemkogoclljhpaa
open Go Go.Proofs.Ytemkogoclljhpaa.L
set_option linter.unusedVariables false
set_option linter.unusedSimpArgs false

namespace T

end T


theorem lease_eq {x y : Ls} (h : ((x.1 == y.1) && (x.2.1 == y.2.1) && (x.2.2.1 == y.2.2.1) && (x.2.2.2.1 == y.2.2.2.1) && (x.2.2.2.2 == y.2.2.2.2)) = true) : x = y := by
  obtain ⟨a, b, c, d, e⟩ := x
  obtain ⟨a', b', c', d', e'⟩ := y
  simp only [Bool.and_eq_true, beq_iff_eq] at h
  obtain ⟨⟨⟨⟨rfl, rfl⟩, rfl⟩, rfl⟩, rfl⟩ := h
  rfl
theorem lease_ne {x y : Ls} (h : ((x.1 == y.1) && (x.2.1 == y.2.1) && (x.2.2.1 == y.2.2.1) && (x.2.2.2.1 == y.2.2.2.1) && (x.2.2.2.2 == y.2.2.2.2)) = false) : x ≠ y := by
  rintro rfl
  simp at h

/- (*tidepool/lease.Leases).part -/
set_option maxRecDepth 100000 in
theorem F129 (b : Nat) (v : Value) (most last : Int) (rows : List Ls) (hl : rows.length ≤ 500) (p : Ls → Bool) (fh : FuncId) (u : Value) (ρ : RP) (hh : ∀ x, FnR Try.prog fh [is (.agg #[.int .u64 x.1, .int .i64 x.2.1, .int .u64 x.2.2.1, .int .u64 x.2.2.2.1, .bool x.2.2.2.2]), is u] [ρ] (is (.bool (p x)))) : FnG Try.prog 129 [is (.pointer (some ⟨b, 0, none⟩)), is (.func (.func fh) #[] #[u])] [ρ] [BlkR b [is v, is (.int .i64 most), is (.int .u64 last)] 197, Own leaseR 97 v rows] (γ := Value) (fun v' => Lst leaseR (rows.filter p)) (fun v' => [BlkR b [is v', is (.int .i64 most), is (.int .u64 last)] 197, Own leaseR 97 v' (rows.filter fun x => !p x)]) := by
  refine FnG.mk' Try.func129 T.nm129 rfl (N := 17) rfl rfl (t := 3) rfl fun B => ?_
  refine Tr.seq ?_
  refine Tr.region ?_
  refine TrL.box1 20 rfl rfl (.of rfl) rfl 3 rfl rfl rfl fun b20 => ?_
  refine TrL.allocR 21 (zs := [.slice none 0 0]) rfl rfl (by kernel_rfl) 4 rfl rfl rfl fun b21 => ?_
  refine TrL.nil ?_
  refine Fin.keepG (Γ' := [(0, _), (3, _), (4, _)]) (.same rfl (.same rfl (.same rfl .nil))) ?_
  refine Fin.next ?_
  refine Tr.seq ?_
  refine Tr.seq ?_
  refine Tr.region ?_
  refine TrL.stepS 5 (.plain rfl (.move rfl (.of rfl))) rfl rfl ?_
  refine TrL.stepS 6 (.plain rfl (.eqlPN rfl (.of rfl) (.of rfl) Try.underlying94)) rfl rfl ?_
  refine TrL.nil ?_
  refine Fin.keepG (Γ' := [(0, _), (3, _), (4, _), (6, _)]) (.same rfl (.same rfl (.same rfl (.same rfl .nil)))) ?_
  refine Fin.next ?_
  refine Tr.cond rfl (fun hb0 => ?_) (fun hb0 => ?_)
  · try simp only [decide_eq_true_eq, decide_eq_false_iff_not, beq_iff_eq, beq_eq_false_iff_ne, bne_iff_ne, bne_eq_false_iff_eq, Bool.and_eq_true, Bool.and_eq_false_iff, Bool.or_eq_true, Bool.or_eq_false_iff, Bool.not_eq_true', Bool.not_eq_false', gt_iff_lt, ge_iff_le, Int.not_lt, Int.not_le, ne_eq, Int.natCast_nonneg, true_and, and_true, Decidable.not_not, not_true_eq_false, not_false_eq_true] at hb0
    cases hb0
  · try simp only [decide_eq_true_eq, decide_eq_false_iff_not, beq_iff_eq, beq_eq_false_iff_ne, bne_iff_ne, bne_eq_false_iff_eq, Bool.and_eq_true, Bool.and_eq_false_iff, Bool.or_eq_true, Bool.or_eq_false_iff, Bool.not_eq_true', Bool.not_eq_false', gt_iff_lt, ge_iff_le, Int.not_lt, Int.not_le, ne_eq, Int.natCast_nonneg, true_and, and_true, Decidable.not_not, not_true_eq_false, not_false_eq_true] at hb0
    refine Tr.skip ?_
    refine Fin.next ?_
    refine Tr.seq ?_
    refine Tr.own0 30 leaseR 97 rfl ?_
    refine Tr.region ?_
    refine TrL.stepS 7 (.plain rfl (.move rfl (.of rfl))) rfl rfl ?_
    refine TrL.stepS 8 (.plain rfl (.move rfl (.of rfl))) rfl rfl ?_
    refine TrL.stepS 9 (.plain rfl (.nilCheckP rfl (.of rfl))) rfl rfl ?_
    refine TrL.stepS 10 (.plain rfl (.fieldP rfl (.of rfl) T.fl197_0)) rfl rfl ?_
    refine TrL.stepS 11 (.plain rfl (.loadR 3 rfl (.of rfl) rfl rfl rfl T.sc103)) rfl rfl ?_
    refine TrL.stepS 12 (.plain rfl (.func0 rfl (.cons (.of rfl) (.cons (.of rfl) .nil)))) rfl rfl ?_
    refine TrL.callG [20, 2] [4, 21, 30] [4, 21, 30] rfl rfl 13 rfl rfl (F169 p fh u ρ hh b20 b21 (.slice none 0 0) [] (by simp) v rows hl (by simp)) (.cons (.of rfl) (.cons (.of rfl) .nil)) (.same rfl (.same rfl (.same rfl (.same rfl (.same rfl .nil))))) rfl rfl (fun _ => rfl) fun g => ?_
    refine TrL.stepS 14 (.plain rfl (.nilCheckP rfl (.of rfl))) rfl rfl ?_
    refine TrL.stepS 15 (.plain rfl (.fieldP rfl (.of rfl) T.fl197_0)) rfl rfl ?_
    refine TrL.memP 4 rfl rfl own_form fun hf => ?_
    refine TrL.storeR1 3 rfl rfl rfl (.of rfl) (.of rfl) rfl rfl (L.h1sl hf) T.sz103 rfl ?_
    refine TrL.nil ?_
    refine Fin.keepG (Γ' := [(4, _)]) (.same rfl .nil) ?_
    refine Fin.next ?_
    refine Tr.seq ?_
    refine Tr.region ?_
    refine TrL.stepS 16 (.plain rfl (.loadR 21 rfl (.of rfl) rfl rfl rfl T.sc103)) rfl rfl ?_
    refine TrL.memP 30 rfl rfl own_form fun hf2 => ?_
    refine TrL.storeR1 21 rfl rfl rfl (.of rfl) (.of rfl) rfl rfl (L.h1sl hf2) T.sz103 rfl ?_
    refine TrL.nil ?_
    refine Fin.keepG (Γ' := [(4, _)]) (.same rfl .nil) ?_
    refine Fin.next ?_
    refine Tr.ret ?_
    refine Fin.freezeF 30 (R := Lst leaseR ([] ++ rows.filter p)) rfl (fun F L w h => Own.lst h) rfl ?_
    refine Fin.factIn 21 30 0 rfl rfl rfl rfl rfl ?_
    exact Fin.retGI 3 rfl (g.1) [3, 4] (rs := [_]) rfl (.cons (.cellR1 21 rfl rfl rfl rfl T.sc103) .nil) (.cons (fun _ _ h => h) .nil) rfl ((.same rfl (.same rfl .nil))) rfl

/- (*tidepool/lease.Leases).Expire -/
set_option maxRecDepth 100000 in
theorem F60 (b : Nat) (v : Value) (most last : Int) (rows : List Ls) (hl : rows.length ≤ 500) (n : Int) : FnG Try.prog 60 [is (.pointer (some ⟨b, 0, none⟩)), is (.int .u64 n)] [] [BlkR b [is v, is (.int .i64 most), is (.int .u64 last)] 197, Own leaseR 97 v rows] (γ := Value) (fun v' => Lst leaseR (rows.filter (fun x => decide (x.2.2.2.1 ≤ n)))) (fun v' => [BlkR b [is v', is (.int .i64 most), is (.int .u64 last)] 197, Own leaseR 97 v' (rows.filter fun x => !((fun x => decide (x.2.2.2.1 ≤ n))) x)]) := by
  refine FnG.mk' Try.func60 T.nm60 rfl (N := 8) rfl rfl (t := 2) rfl fun B => ?_
  refine Tr.seq ?_
  refine Tr.region ?_
  refine TrL.box1 20 rfl rfl (.of rfl) rfl 3 rfl rfl rfl fun b20 => ?_
  refine TrL.stepS 4 (.plain rfl (.assign rfl (.of rfl))) rfl rfl ?_
  refine TrL.nil ?_
  refine Fin.keepG (Γ' := [(0, _), (3, _)]) (.same rfl (.same rfl .nil)) ?_
  refine Fin.next ?_
  refine Tr.seq ?_
  refine Tr.region ?_
  refine TrL.stepS 5 (.plain rfl (.move rfl (.of rfl))) rfl rfl ?_
  refine TrL.stepS 6 (.plain rfl (.func0 rfl (.cons (.of rfl) .nil))) rfl rfl ?_
  refine TrL.callG [20] [2, 3] [2, 3] rfl rfl 7 rfl rfl (F129 b v most last rows hl (fun x => decide (x.2.2.2.1 ≤ n)) 130 (.pointer (some ⟨b20, 0, none⟩)) _ (fun x => F130 b20 n x)) (.cons (.of rfl) (.cons (.of rfl) .nil)) (.same rfl (.same rfl (.same rfl .nil))) rfl rfl (fun _ => rfl) fun v' => ?_
  refine TrL.stepS 4 (.plain rfl (.assign rfl (.of rfl))) rfl rfl ?_
  refine TrL.nil ?_
  refine Fin.keepG (Γ' := [(4, _)]) (.same rfl .nil) ?_
  refine Fin.next ?_
  refine Tr.ret ?_
  exact Fin.retGI 2 rfl (v') [2, 3] (rs := [_]) rfl (.cons (.tmp rfl) .nil) (.cons (fun _ _ h => h) .nil) rfl ((.same rfl (.same rfl .nil))) rfl

/- (*tidepool/lease.Leases).Leave -/
set_option maxRecDepth 100000 in
theorem F65 (b : Nat) (v : Value) (most last : Int) (rows : List Ls) (hl : rows.length ≤ 500) (n : Int) : FnG Try.prog 65 [is (.pointer (some ⟨b, 0, none⟩)), is (.int .i64 n)] [] [BlkR b [is v, is (.int .i64 most), is (.int .u64 last)] 197, Own leaseR 97 v rows] (γ := Value) (fun v' => Lst leaseR (rows.filter (fun x => x.2.1 == n))) (fun v' => [BlkR b [is v', is (.int .i64 most), is (.int .u64 last)] 197, Own leaseR 97 v' (rows.filter fun x => !((fun x => x.2.1 == n)) x)]) := by
  refine FnG.mk' Try.func65 T.nm65 rfl (N := 8) rfl rfl (t := 2) rfl fun B => ?_
  refine Tr.seq ?_
  refine Tr.region ?_
  refine TrL.box1 20 rfl rfl (.of rfl) rfl 3 rfl rfl rfl fun b20 => ?_
  refine TrL.stepS 4 (.plain rfl (.assign rfl (.of rfl))) rfl rfl ?_
  refine TrL.nil ?_
  refine Fin.keepG (Γ' := [(0, _), (3, _)]) (.same rfl (.same rfl .nil)) ?_
  refine Fin.next ?_
  refine Tr.seq ?_
  refine Tr.region ?_
  refine TrL.stepS 5 (.plain rfl (.move rfl (.of rfl))) rfl rfl ?_
  refine TrL.stepS 6 (.plain rfl (.func0 rfl (.cons (.of rfl) .nil))) rfl rfl ?_
  refine TrL.callG [20] [2, 3] [2, 3] rfl rfl 7 rfl rfl (F129 b v most last rows hl (fun x => x.2.1 == n) 132 (.pointer (some ⟨b20, 0, none⟩)) _ (fun x => F132 b20 n x)) (.cons (.of rfl) (.cons (.of rfl) .nil)) (.same rfl (.same rfl (.same rfl .nil))) rfl rfl (fun _ => rfl) fun v' => ?_
  refine TrL.stepS 4 (.plain rfl (.assign rfl (.of rfl))) rfl rfl ?_
  refine TrL.nil ?_
  refine Fin.keepG (Γ' := [(4, _)]) (.same rfl .nil) ?_
  refine Fin.next ?_
  refine Tr.ret ?_
  exact Fin.retGI 2 rfl (v') [2, 3] (rs := [_]) rfl (.cons (.tmp rfl) .nil) (.cons (fun _ _ h => h) .nil) rfl ((.same rfl (.same rfl .nil))) rfl

/- slices.Delete[[]tidepool/lease.Lease,tidepool/lease.Lease] -/
set_option maxRecDepth 100000 in
theorem F131 (v : Value) (xs : List Ls) (i j : Nat) (hl : xs.length ≤ 1000) (hij : i < j) (hj : j ≤ xs.length) : FnG Try.prog 131 [is v, is (.int .i64 (i : Int)), is (.int .i64 (j : Int))] [] [Own leaseR 97 v xs] (γ := Unit) (fun _ => is (prefV v (i + (xs.length - j)))) (fun _ => [Own leaseR 97 (prefV v (i + (xs.length - j))) (xs.take i ++ xs.drop j)]) := by
  refine FnG.mk' Try.func131 T.nm131 rfl (N := 33) rfl rfl (t := 2) rfl fun B => ?_
  refine Tr.seq ?_
  refine Tr.memP 2 rfl rfl own_form fun hf => ?_
  refine Tr.region ?_
  refine TrL.stepS 6 (.plain rfl (.assign rfl (.of rfl))) rfl rfl ?_
  refine TrL.nil ?_
  refine Fin.keepG (Γ' := [(0, _), (1, _), (2, _)]) (.same rfl (.same rfl (.same rfl .nil))) ?_
  refine Fin.next ?_
  refine Tr.seq ?_
  refine Tr.region ?_
  refine TrL.stepS 8 (.plain rfl (.move rfl (.of rfl))) rfl rfl ?_
  refine TrL.stepS 9 (.plain rfl (.move rfl (.of rfl))) rfl rfl ?_
  refine TrL.stepS 10 (.plain rfl (.move rfl (.of rfl))) rfl rfl ?_
  refine TrL.stepS 11 (.plain rfl (.move rfl (.of rfl))) rfl rfl ?_
  refine TrL.stepS 12 (.plain rfl (.lenV 2 rfl (.of rfl) rfl Own.view rfl Try.underlying103)) rfl rfl ?_
  refine TrL.stepS 13 (.plain rfl (OpM.slice3 (K := leaseR) rfl (.of rfl) (.of rfl) (.of rfl) (.of rfl) Try.underlying103 T.sz97 hf (by omega) (by omega) (by omega) (by omega))) rfl rfl ?_
  refine TrL.nil ?_
  refine Fin.keepG (Γ' := [(0, _), (1, _), (2, _)]) (.same rfl (.same rfl (.same rfl .nil))) ?_
  refine Fin.next ?_
  refine Tr.seq ?_
  refine Tr.seq ?_
  refine Tr.region ?_
  refine TrL.stepS 14 (.plain rfl (.move rfl (.of rfl))) rfl rfl ?_
  refine TrL.stepS 15 (.plain rfl (.move rfl (.of rfl))) rfl rfl ?_
  refine TrL.stepS 16 (.plain rfl (.eql rfl (.of rfl) (.of rfl))) rfl rfl ?_
  refine TrL.nil ?_
  refine Fin.keepG (Γ' := [(0, _), (1, _), (2, _), (16, _)]) (.same rfl (.same rfl (.same rfl (.same rfl .nil)))) ?_
  refine Fin.next ?_
  refine Tr.cond rfl (fun hb0 => ?_) (fun hb0 => ?_)
  · try simp only [decide_eq_true_eq, decide_eq_false_iff_not, beq_iff_eq, beq_eq_false_iff_ne, bne_iff_ne, bne_eq_false_iff_eq, Bool.and_eq_true, Bool.and_eq_false_iff, Bool.or_eq_true, Bool.or_eq_false_iff, Bool.not_eq_true', Bool.not_eq_false', gt_iff_lt, ge_iff_le, Int.not_lt, Int.not_le, ne_eq, Int.natCast_nonneg, true_and, and_true, Decidable.not_not, not_true_eq_false, not_false_eq_true] at hb0
    omega
  · try simp only [decide_eq_true_eq, decide_eq_false_iff_not, beq_iff_eq, beq_eq_false_iff_ne, bne_iff_ne, bne_eq_false_iff_eq, Bool.and_eq_true, Bool.and_eq_false_iff, Bool.or_eq_true, Bool.or_eq_false_iff, Bool.not_eq_true', Bool.not_eq_false', gt_iff_lt, ge_iff_le, Int.not_lt, Int.not_le, ne_eq, Int.natCast_nonneg, true_and, and_true, Decidable.not_not, not_true_eq_false, not_false_eq_true] at hb0
    refine Tr.skip ?_
    refine Fin.next ?_
    refine Tr.seq ?_
    refine Tr.region ?_
    refine TrL.stepS 18 (.plain rfl (.move rfl (.of rfl))) rfl rfl ?_
    refine TrL.stepS 19 (.plain rfl (.lenV 2 rfl (.of rfl) rfl Own.view rfl Try.underlying103)) rfl rfl ?_
    refine TrL.stepS 7 (.plain rfl (.assign rfl (.of rfl))) rfl rfl ?_
    refine TrL.nil ?_
    refine Fin.keepG (Γ' := [(0, _), (1, _), (2, _), (7, _)]) (.same rfl (.same rfl (.same rfl (.same rfl .nil)))) ?_
    refine Fin.next ?_
    refine Tr.seq ?_
    refine Tr.regionW [([], [], []), ([], [], []), ([], [], []), ([], [], []), ([], [], []), ([], [], []), ([2], [2], []), ([], [], [])] T.mixed (by kernel_rfl) (by kernel_rfl) (by kernel_rfl) (by kernel_rfl) ?_
    refine AChain.rd 20 rfl (fun σ => .plain rfl (.move rfl (.of rfl))) rfl rfl (fun _ _ => rfl) (L.Dep.const) ?_
    refine AChain.rd 21 rfl (fun σ => .plain rfl (.move rfl (.of rfl))) rfl rfl (fun _ _ => rfl) (L.Dep.const) ?_
    refine AChain.rd 22 rfl (fun σ => .plain rfl (OpM.prefR (K := leaseR) i rfl (.of rfl) (.of rfl) Try.underlying103 T.sz97 rfl hf (by omega))) rfl rfl (fun _ _ => rfl) (L.Dep.const) ?_
    refine AChain.rd 23 rfl (fun σ => .plain rfl (.move rfl (.of rfl))) rfl rfl (fun _ _ => rfl) (L.Dep.const) ?_
    refine AChain.rd 24 rfl (fun σ => .plain rfl (.move rfl (.of rfl))) rfl rfl (fun _ _ => rfl) (L.Dep.const) ?_
    refine AChain.rd 25 rfl (fun σ => .plain rfl (OpM.suffix (K := leaseR) j rfl (.of rfl) (.of rfl) Try.underlying103 T.sz97 rfl hf hj)) rfl rfl (fun _ _ => rfl) (L.Dep.const) ?_
    refine AChain.wr1V 2 26 rfl rfl rfl rfl rfl (fun w0 κ0 σ => TrL.appendP 2 i j rfl rfl rfl 26 rfl rfl (.of rfl) (.of rfl) rfl rfl Try.underlying103 T.sz97 (by omega) hj (by omega) (TrL.doneR rfl (fun _ => rfl) (fun _ => .free rfl .nil))) ?_
    refine AChain.rd 0 rfl (fun σ => .plain rfl (.assign rfl (.of rfl))) rfl rfl (fun _ _ => rfl) (L.Dep.const) ?_
    refine AChain.nil ?_
    intro s5
    refine Fin.keepG (Γ' := [(0, _), (7, _)]) (.same rfl (.same rfl .nil)) ?_
    refine Fin.next ?_
    refine Tr.seq ?_
    refine Tr.region ?_
    refine TrL.stepS 27 (.plain rfl (.move rfl (.of rfl))) rfl rfl ?_
    refine TrL.stepS 28 (.plain rfl (.move rfl (.of rfl))) rfl rfl ?_
    refine TrL.stepS 29 (.plain rfl (OpM.lenP rfl (.of rfl) (pref_form hf (j := i + (xs.length - j)) (by omega)) Try.underlying103)) rfl rfl ?_
    refine TrL.stepS 30 (.plain rfl (.move rfl (.of rfl))) rfl rfl ?_
    refine TrL.stepS 31 (.plain rfl (OpM.eqV (v := L.partV v (i + (xs.length - j)) (xs.take i ++ xs.drop j ++ xs.drop (i + (xs.length - j))).length leaseR.n) (OpM.partR (K := leaseR) (i + (xs.length - j)) xs.length rfl (.of rfl) (.of rfl) (.of rfl) Try.underlying103 T.sz97 rfl rfl (pref_form' hf (Nat.le_refl _)) (by omega)) (by rw [partV_pref, show (xs.take i ++ xs.drop j ++ xs.drop (i + (xs.length - j))).length = xs.length by simp; omega]))) rfl rfl ?_
    refine TrL.clearP 2 (i + (xs.length - j)) (bytes := 40) rfl rfl rfl (.of rfl) rfl rfl Try.underlying103 T.el97 (by kernel_rfl) (by simp; omega) ?_
    refine TrL.nil ?_
    refine Fin.keepG (Γ' := [(0, _)]) (.same rfl .nil) ?_
    refine Fin.next ?_
    refine Tr.seq ?_
    refine Tr.region ?_
    refine TrL.stepS 32 (.plain rfl (.move rfl (.of rfl))) rfl rfl ?_
    refine TrL.stepS 6 (.plain rfl (.assign rfl (.of rfl))) rfl rfl ?_
    refine TrL.nil ?_
    refine Fin.keepG (Γ' := [(6, _)]) (.same rfl .nil) ?_
    refine Fin.next ?_
    refine Tr.ret ?_
    exact Fin.retGI 2 rfl (()) [2] (rs := [_]) rfl (.cons (.tmp rfl) .nil) (.cons (L.iv rfl) .nil) rfl (.cons rfl (fun F L w h => by rw [List.take_left' (by simp; omega)] at h; exact h) .nil) rfl

/- (*tidepool/lease.Leases).Release -/
set_option maxRecDepth 100000 in
theorem F62 (b : Nat) (v : Value) (most last : Int) (rows : List Ls) (hl : rows.length ≤ 1000) (owner id : Int) (cur : Bool) : FnG Try.prog 62 [is (.pointer (some ⟨b, 0, none⟩)), is (.int .i64 owner), is (.int .u64 id), is (.bool cur)] [] [BlkR b [is v, is (.int .i64 most), is (.int .u64 last)] 197, Own leaseR 97 v rows] (γ := Value) (fun v' => is (.int .i64 (errF (hasP id owner cur) rows cur))) (fun v' => [BlkR b [is v', is (.int .i64 most), is (.int .u64 last)] 197, Own leaseR 97 v' (rows.eraseIdx (ix (hasP id owner cur) rows))]) := by
  refine FnG.mk' Try.func62 T.nm62 rfl (N := 33) rfl rfl (t := 2) rfl fun B => ?_
  refine Tr.seq ?_
  refine Tr.region ?_
  refine TrL.stepS 8 (.plain rfl (.assign rfl (.of rfl))) rfl rfl ?_
  refine TrL.nil ?_
  refine Fin.keepG (Γ' := [(0, _), (1, _), (2, _), (3, _)]) (.same rfl (.same rfl (.same rfl (.same rfl .nil)))) ?_
  refine Fin.next ?_
  refine Tr.seq ?_
  refine Tr.region ?_
  refine TrL.stepS 12 (.plain rfl (.move rfl (.of rfl))) rfl rfl ?_
  refine TrL.stepS 13 (.plain rfl (.move rfl (.of rfl))) rfl rfl ?_
  refine TrL.stepS 14 (.plain rfl (.move rfl (.of rfl))) rfl rfl ?_
  refine TrL.stepS 15 (.plain rfl (.move rfl (.of rfl))) rfl rfl ?_
  refine TrL.stepS 16 (.plain rfl (.callR [2, 3] rfl (F128 b v most last rows hl owner id cur) (.cons (.of rfl) (.cons (.of rfl) (.cons (.of rfl) (.cons (.of rfl) .nil)))) (.same rfl (.same rfl .nil)) rfl)) rfl rfl ?_
  refine TrL.stepS 11 (.plain rfl (.move rfl (.of rfl))) rfl rfl ?_
  refine TrL.stepS 17 (.plain rfl (.extract rfl (.of rfl) rfl)) rfl rfl ?_
  refine TrL.stepS 18 (.plain rfl (.extract rfl (.of rfl) rfl)) rfl rfl ?_
  refine TrL.stepS 9 (.plain rfl (.assign rfl (.of rfl))) rfl rfl ?_
  refine TrL.stepS 10 (.plain rfl (.assign rfl (.of rfl))) rfl rfl ?_
  refine TrL.nil ?_
  refine Fin.keepG (Γ' := [(0, _), (9, _), (10, _)]) (.same rfl (.same rfl (.same rfl .nil))) ?_
  refine Fin.next ?_
  refine Tr.seq ?_
  refine Tr.seq ?_
  refine Tr.region ?_
  refine TrL.stepS 19 (.plain rfl (.move rfl (.of rfl))) rfl rfl ?_
  refine TrL.stepS 20 (.plain rfl (.eql rfl (.of rfl) (.of rfl))) rfl rfl ?_
  refine TrL.nil ?_
  refine Fin.keepG (Γ' := [(0, _), (9, _), (10, _), (20, _)]) (.same rfl (.same rfl (.same rfl (.same rfl .nil)))) ?_
  refine Fin.next ?_
  refine Tr.cond rfl (fun hb0 => ?_) (fun hb0 => ?_)
  · try simp only [decide_eq_true_eq, decide_eq_false_iff_not, beq_iff_eq, beq_eq_false_iff_ne, bne_iff_ne, bne_eq_false_iff_eq, Bool.and_eq_true, Bool.and_eq_false_iff, Bool.or_eq_true, Bool.or_eq_false_iff, Bool.not_eq_true', Bool.not_eq_false', gt_iff_lt, ge_iff_le, Int.not_lt, Int.not_le, ne_eq, Int.natCast_nonneg, true_and, and_true, Decidable.not_not, not_true_eq_false, not_false_eq_true] at hb0
    have hlt : ix (hasP id owner cur) rows < rows.length := by
      by_cases h : ix (hasP id owner cur) rows < rows.length
      · exact h
      · rw [if_neg h] at hb0; split at hb0 <;> omega
    have hE : errF (hasP id owner cur) rows cur = 0 := errF_zero.2 hlt
    simp only [if_pos hlt]
    refine Tr.region ?_
    refine TrL.stepS 21 (.plain rfl (.move rfl (.of rfl))) rfl rfl ?_
    refine TrL.stepS 22 (.plain rfl (.move rfl (.of rfl))) rfl rfl ?_
    refine TrL.stepS 23 (.plain rfl (.nilCheckP rfl (.of rfl))) rfl rfl ?_
    refine TrL.stepS 24 (.plain rfl (.fieldP rfl (.of rfl) T.fl197_0)) rfl rfl ?_
    refine TrL.stepS 25 (.plain rfl (.loadR 2 rfl (.of rfl) rfl rfl rfl T.sc103)) rfl rfl ?_
    refine TrL.stepS 26 (.plain rfl (.move rfl (.of rfl))) rfl rfl ?_
    refine TrL.stepS 27 (.plain rfl (.move rfl (.of rfl))) rfl rfl ?_
    first | refine TrL.stepS 28 (.plain rfl (.addI L.bd_i64 rfl (.of rfl) (.of rfl) (by omega) (by omega))) rfl rfl ?_ | refine TrL.stepS 28 (.plain rfl (.add rfl (.of rfl) (.of rfl))) rfl rfl ?_
    refine TrL.callG [] [3] [3] rfl rfl 29 rfl rfl (F131 v rows (ix (hasP id owner cur) rows) (ix (hasP id owner cur) rows + 1) hl (by omega) (by omega)) (.cons (.of rfl) (.cons (.of rfl) (.cons (.of rfl) .nil))) (.same rfl .nil) rfl rfl (fun _ => rfl) fun _ => ?_
    refine TrL.stepS 30 (.plain rfl (.nilCheckP rfl (.of rfl))) rfl rfl ?_
    refine TrL.stepS 31 (.plain rfl (.fieldP rfl (.of rfl) T.fl197_0)) rfl rfl ?_
    refine TrL.memP 3 rfl rfl own_form fun hf => ?_
    refine TrL.storeR1 2 rfl rfl rfl (.of rfl) (.of rfl) rfl rfl (L.h1sl hf) T.sz103 rfl ?_
    refine TrL.nil ?_
    refine Fin.keepG (Γ' := [(10, _)]) (.same rfl .nil) ?_
    refine Fin.next ?_
    refine Tr.seq ?_
    refine Tr.region ?_
    refine TrL.stepS 32 (.plain rfl (.move rfl (.of rfl))) rfl rfl ?_
    refine TrL.stepS 8 (.plain rfl (.assign rfl (.of rfl))) rfl rfl ?_
    refine TrL.nil ?_
    refine Fin.keepG (Γ' := [(8, _)]) (.same rfl .nil) ?_
    refine Fin.next ?_
    refine Tr.ret ?_
    refine Fin.retGI 2 rfl (prefV v (ix (hasP id owner cur) rows + (rows.length - (ix (hasP id owner cur) rows + 1)))) [2, 3] (rs := [_]) rfl (.cons (.tmp rfl) .nil) (.cons (L.iv ?_) .nil) rfl (.same rfl (.cons rfl (fun F L w h => by rw [List.eraseIdx_eq_take_drop_succ]; exact h) .nil)) rfl
    · rw [hE]
  · try simp only [decide_eq_true_eq, decide_eq_false_iff_not, beq_iff_eq, beq_eq_false_iff_ne, bne_iff_ne, bne_eq_false_iff_eq, Bool.and_eq_true, Bool.and_eq_false_iff, Bool.or_eq_true, Bool.or_eq_false_iff, Bool.not_eq_true', Bool.not_eq_false', gt_iff_lt, ge_iff_le, Int.not_lt, Int.not_le, ne_eq, Int.natCast_nonneg, true_and, and_true, Decidable.not_not, not_true_eq_false, not_false_eq_true] at hb0
    have hlt : ¬ ix (hasP id owner cur) rows < rows.length := by
      intro h
      rw [if_pos h] at hb0; omega
    have hE : errF (hasP id owner cur) rows cur = if cur = true then 260 else 220 := by unfold errF; rw [if_neg hlt]
    refine Tr.skip ?_
    refine Fin.next ?_
    refine Tr.seq ?_
    refine Tr.region ?_
    refine TrL.stepS 32 (.plain rfl (.move rfl (.of rfl))) rfl rfl ?_
    refine TrL.stepS 8 (.plain rfl (.assign rfl (.of rfl))) rfl rfl ?_
    refine TrL.nil ?_
    refine Fin.keepG (Γ' := [(8, _)]) (.same rfl .nil) ?_
    refine Fin.next ?_
    refine Tr.ret ?_
    refine Fin.retGI 2 rfl (v) [2, 3] (rs := [_]) rfl (.cons (.tmp rfl) .nil) (.cons (L.iv ?_) .nil) rfl (.same rfl (.cons rfl (fun F L w h => by rw [List.eraseIdx_of_length_le (by omega)]; exact h) .nil)) rfl
    · rw [hE, if_neg hlt]

/- tidepool/tidepooltop.held34$1 -/
set_option maxRecDepth 100000 in
theorem F61 (p : Ls → Bool) (fh : FuncId) (u : Value) (ρ : RP) (hh : ∀ x, FnR Try.prog fh [is (.agg #[.int .u64 x.1, .int .i64 x.2.1, .int .u64 x.2.2.1, .int .u64 x.2.2.2.1, .bool x.2.2.2.2]), is u] [ρ] (is (.bool (p x)))) (bl : Nat) (v : Value) (xs : List Ls) (hl : xs.length ≤ 1000) : FnG Try.prog 61 [is (.func (.func fh) #[] #[u]), is (.pointer (some ⟨bl, 0, none⟩))] [ρ, BlkR bl [is v] 103, View leaseR v xs] [] (γ := Value) (fun v1 => Tup [is v1, Lst leaseR (xs.filter p)]) (fun v1 => [Own leaseR 97 v1 (xs.filter fun x => !p x)]) := by
  refine FnG.mk' Try.func61 T.nm61 rfl (N := 27) rfl rfl (t := 5) rfl fun B => ?_
  refine Tr.seq ?_
  refine Tr.region ?_
  refine TrL.stepS 3 (.plain rfl (.assign rfl (.of rfl))) rfl rfl ?_
  refine TrL.stepS 4 (.plain rfl (.assign rfl (.of rfl))) rfl rfl ?_
  refine TrL.nil ?_
  refine Fin.next ?_
  refine Tr.seq ?_
  refine Tr.seq ?_
  refine Tr.own0 30 leaseR 97 rfl ?_
  refine Tr.own0 31 leaseR 97 rfl ?_
  refine Tr.region ?_
  refine TrL.stepS 7 (.plain rfl (.loadR 3 rfl (.of rfl) rfl rfl rfl T.sc103)) rfl rfl ?_
  refine TrL.stepS 8 (.plain rfl (.lenV 4 rfl (.of rfl) rfl View.refl rfl Try.underlying103)) rfl rfl ?_
  refine TrL.stepS 9 (.plain rfl (.move rfl (.of rfl))) rfl rfl ?_
  refine TrL.nil ?_
  refine Fin.keepG (Γ' := [(0, _), (3, _), (4, _), (7, _), (8, _), (9, _)]) (.same rfl (.same rfl (.same rfl (.same rfl (.same rfl (.same rfl .nil)))))) ?_
  refine Fin.next ?_
  refine Tr.block ?_
  refine Tr.loopK (γ := Nat × Value × Value) (Γk := [(0, _), (7, _), (8, _)]) (Mk := [(2, _), (3, _), (4, _)]) (.same rfl (.same rfl (.same rfl .nil))) (.same rfl (.same rfl (.same rfl .nil))) (fun gp => gp.1 ≤ xs.length) (fun gp => fun r => (30, Own leaseR 97 gp.2.1 ((xs.take gp.1).filter fun x => !p x)) :: (31, Own leaseR 97 gp.2.2 ((xs.take gp.1).filter p)) :: r) (fun gp => fun r => (3, is gp.2.1) :: (4, is gp.2.2) :: (9, is (.int .i64 gp.1)) :: r) (fun gp => xs.length - gp.1) ((0, .slice none 0 0, .slice none 0 0)) ?h0_0 ?hM_0 ?hG_0 ?hl_0
  case h0_0 => exact Nat.zero_le _
  case hM_0 => exact (.same rfl (.same rfl (.same rfl (.same rfl (.same rfl .nil)))))
  case hG_0 => exact (.eq rfl (by first | rfl | (congr 1; first | done | omega | (push_cast; omega) | (push_cast; rfl))) (.eq rfl (by first | rfl | (congr 1; first | done | omega | (push_cast; omega) | (push_cast; rfl))) (.eq rfl (by first | rfl | (congr 1; first | done | omega | (push_cast; omega) | (push_cast; rfl))) (.same rfl (.same rfl (.same rfl .nil))))))
  case hl_0 =>
    intro p hI
    obtain ⟨k, v3, v4⟩ := p
    dsimp only at hI ⊢
    refine Tr.seq ?_
    refine Tr.region ?_
    refine TrL.stepS 10 (.plain rfl (.lss rfl (.of rfl) (.of rfl))) rfl rfl ?_
    refine TrL.nil ?_
    refine Fin.next ?_
    refine Tr.seq ?_
    refine Tr.cond rfl (fun hb0 => ?_) (fun hb0 => ?_)
    · try simp only [decide_eq_true_eq, decide_eq_false_iff_not, beq_iff_eq, beq_eq_false_iff_ne, bne_iff_ne, bne_eq_false_iff_eq, Bool.and_eq_true, Bool.and_eq_false_iff, Bool.or_eq_true, Bool.or_eq_false_iff, Bool.not_eq_true', Bool.not_eq_false', gt_iff_lt, ge_iff_le, Int.not_lt, Int.not_le, ne_eq, Int.natCast_nonneg, true_and, and_true, Decidable.not_not, not_true_eq_false, not_false_eq_true] at hb0
      obtain ⟨x, hx⟩ := ex_get (xs := xs) (i := k) (by omega)
      have hf1 := List.length_filter_le p (xs.take k)
      have hf2 := List.length_filter_le (fun x => !p x) (xs.take k)
      rw [List.length_take] at hf1 hf2
      refine Tr.skip ?_
      refine Fin.next ?_
      refine Tr.seq ?_
      refine Tr.block ?_
      refine Tr.seq ?_
      refine Tr.region ?_
      refine TrL.stepS 11 (.plain rfl (.indexN 4 (k) rfl (.of rfl) (.of rfl) rfl View.refl rfl Try.underlying103 T.sz97 (by omega) (hx))) rfl rfl ?_
      refine TrL.stepS 12 (.plain rfl (.loadWV 4 (k) 0 5 (ds := [_, _, _, _, _]) rfl (.of rfl) rfl View.refl rfl (hx) rfl rfl T.ag97)) rfl rfl ?_
      refine TrL.allocS 20 (zs := [.int .u64 0, .int .i64 0, .int .u64 0, .int .u64 0, .bool false]) rfl rfl (by kernel_rfl) 6 rfl rfl rfl fun b20 => ?_
      refine TrL.storeW 20 (vs := [_, _, _, _, _]) rfl rfl rfl (.of rfl) (.of rfl) rfl rfl T.sz97 rfl rfl ?_
      refine TrL.nil ?_
      refine Fin.keepG (Γ' := [(0, _), (3, _), (4, _), (6, _), (7, _), (8, _), (9, _)]) (.same rfl (.same rfl (.same rfl (.same rfl (.same rfl (.same rfl (.same rfl .nil))))))) ?_
      refine Fin.next ?_
      refine Tr.seq ?_
      refine Tr.region ?_
      refine TrL.stepS 13 (.plain rfl (.move rfl (.of rfl))) rfl rfl ?_
      refine TrL.stepS 14 (.plain rfl (.loadBN 20 (k := 5) (ds := [_, _, _, _, _]) rfl (.of rfl) rfl rfl rfl T.ag97 rfl)) rfl rfl ?_
      refine TrL.stepS 15 (.plain rfl (.callRg (first := []) (caps := [_]) [2] rfl (.of rfl) (hh x) (.cons (.of rfl) .nil) (.same rfl .nil) rfl)) rfl rfl ?_
      refine TrL.nil ?_
      refine Fin.keepG (Γ' := [(0, _), (3, _), (4, _), (6, _), (7, _), (8, _), (9, _), (15, _)]) (.same rfl (.same rfl (.same rfl (.same rfl (.same rfl (.same rfl (.same rfl (.same rfl .nil)))))))) ?_
      refine Fin.next ?_
      refine Tr.cond rfl (fun hb1 => ?_) (fun hb1 => ?_)
      · try simp only [decide_eq_true_eq, decide_eq_false_iff_not, beq_iff_eq, beq_eq_false_iff_ne, bne_iff_ne, bne_eq_false_iff_eq, Bool.and_eq_true, Bool.and_eq_false_iff, Bool.or_eq_true, Bool.or_eq_false_iff, Bool.not_eq_true', Bool.not_eq_false', gt_iff_lt, ge_iff_le, Int.not_lt, Int.not_le, ne_eq, Int.natCast_nonneg, true_and, and_true, Decidable.not_not, not_true_eq_false, not_false_eq_true] at hb1
        refine Tr.region ?_
        refine TrL.stepS 16 (.plain rfl (.move rfl (.of rfl))) rfl rfl ?_
        refine TrL.stepS 17 (.plain rfl (.loadBN 20 (k := 5) (ds := [_, _, _, _, _]) rfl (.of rfl) rfl rfl rfl T.ag97 rfl)) rfl rfl ?_
        refine TrL.stepS 18 (.plain rfl (.slice (K := leaseR) (xs := [_]) rfl (.cons (.map (.of rfl) (leaseR_elem _ _ _ _ _)) .nil) Try.underlying103 T.sz97 T.zb97 rfl (by decide))) rfl rfl ?_
        refine TrL.appendS 31 (bytes := 40) rfl rfl 19 rfl rfl (.of rfl) rfl rfl (.of rfl) Try.underlying103 T.el97 (by simp) (by simp only [List.length_cons, List.length_nil]; omega) (by simp only [maxLen, List.length_append, List.length_cons, List.length_nil, List.length_map, List.length_take]; omega) fun v19 => ?_
        refine TrL.stepS 4 (.plain rfl (.assign rfl (.of rfl))) rfl rfl ?_
        refine TrL.nil ?_
        refine Fin.keepG (Γ' := [(0, _), (3, _), (4, _), (7, _), (8, _), (9, _)]) (.same rfl (.same rfl (.same rfl (.same rfl (.same rfl (.same rfl .nil)))))) ?_
        refine Fin.blockNormal ?_
        refine Fin.next ?_
        refine Tr.region ?_
        first | refine TrL.stepS 24 (.plain rfl (.addI L.bd_i64 rfl (.of rfl) (.of rfl) (by omega) (by omega))) rfl rfl ?_ | refine TrL.stepS 24 (.plain rfl (.add rfl (.of rfl) (.of rfl))) rfl rfl ?_
        refine TrL.stepS 9 (.plain rfl (.move rfl (.of rfl))) rfl rfl ?_
        refine TrL.nil ?_
        refine Fin.keepG (Γ' := [(0, _), (3, _), (4, _), (7, _), (8, _), (9, _)]) (.same rfl (.same rfl (.same rfl (.same rfl (.same rfl (.same rfl .nil)))))) ?_
        exact Fin.again ((k + 1, v3, v19)) (by dsimp only; omega) (by dsimp only; omega) (.cons rfl (fun F L w h => by dsimp only; rw [filter_take hx, hb1]; simpa using h) (.cons rfl (fun F L w h => by dsimp only; rw [filter_take hx, hb1]; exact h) (.same rfl (.same rfl (.same rfl .nil))))) (.eq rfl (by first | rfl | (congr 1; first | done | omega | (push_cast; omega) | (push_cast; rfl))) (.eq rfl (by first | rfl | (congr 1; first | done | omega | (push_cast; omega) | (push_cast; rfl))) (.eq rfl (by first | rfl | (congr 1; first | done | omega | (push_cast; omega) | (push_cast; rfl))) (.same rfl (.same rfl (.same rfl .nil))))))
      · try simp only [decide_eq_true_eq, decide_eq_false_iff_not, beq_iff_eq, beq_eq_false_iff_ne, bne_iff_ne, bne_eq_false_iff_eq, Bool.and_eq_true, Bool.and_eq_false_iff, Bool.or_eq_true, Bool.or_eq_false_iff, Bool.not_eq_true', Bool.not_eq_false', gt_iff_lt, ge_iff_le, Int.not_lt, Int.not_le, ne_eq, Int.natCast_nonneg, true_and, and_true, Decidable.not_not, not_true_eq_false, not_false_eq_true] at hb1
        refine Tr.region ?_
        refine TrL.stepS 20 (.plain rfl (.move rfl (.of rfl))) rfl rfl ?_
        refine TrL.stepS 21 (.plain rfl (.loadBN 20 (k := 5) (ds := [_, _, _, _, _]) rfl (.of rfl) rfl rfl rfl T.ag97 rfl)) rfl rfl ?_
        refine TrL.stepS 22 (.plain rfl (.slice (K := leaseR) (xs := [_]) rfl (.cons (.map (.of rfl) (leaseR_elem _ _ _ _ _)) .nil) Try.underlying103 T.sz97 T.zb97 rfl (by decide))) rfl rfl ?_
        refine TrL.appendS 30 (bytes := 40) rfl rfl 23 rfl rfl (.of rfl) rfl rfl (.of rfl) Try.underlying103 T.el97 (by simp) (by simp only [List.length_cons, List.length_nil]; omega) (by simp only [maxLen, List.length_append, List.length_cons, List.length_nil, List.length_map, List.length_take]; omega) fun v23 => ?_
        refine TrL.stepS 3 (.plain rfl (.assign rfl (.of rfl))) rfl rfl ?_
        refine TrL.nil ?_
        refine Fin.keepG (Γ' := [(0, _), (3, _), (4, _), (7, _), (8, _), (9, _)]) (.same rfl (.same rfl (.same rfl (.same rfl (.same rfl (.same rfl .nil)))))) ?_
        refine Fin.blockNormal ?_
        refine Fin.next ?_
        refine Tr.region ?_
        first | refine TrL.stepS 24 (.plain rfl (.addI L.bd_i64 rfl (.of rfl) (.of rfl) (by omega) (by omega))) rfl rfl ?_ | refine TrL.stepS 24 (.plain rfl (.add rfl (.of rfl) (.of rfl))) rfl rfl ?_
        refine TrL.stepS 9 (.plain rfl (.move rfl (.of rfl))) rfl rfl ?_
        refine TrL.nil ?_
        refine Fin.keepG (Γ' := [(0, _), (3, _), (4, _), (7, _), (8, _), (9, _)]) (.same rfl (.same rfl (.same rfl (.same rfl (.same rfl (.same rfl .nil)))))) ?_
        exact Fin.again ((k + 1, v23, v4)) (by dsimp only; omega) (by dsimp only; omega) (.cons rfl (fun F L w h => by dsimp only; rw [filter_take hx, hb1]; exact h) (.cons rfl (fun F L w h => by dsimp only; rw [filter_take hx, hb1]; simpa using h) (.same rfl (.same rfl (.same rfl .nil))))) (.eq rfl (by first | rfl | (congr 1; first | done | omega | (push_cast; omega) | (push_cast; rfl))) (.eq rfl (by first | rfl | (congr 1; first | done | omega | (push_cast; omega) | (push_cast; rfl))) (.eq rfl (by first | rfl | (congr 1; first | done | omega | (push_cast; omega) | (push_cast; rfl))) (.same rfl (.same rfl (.same rfl .nil))))))
    · try simp only [decide_eq_true_eq, decide_eq_false_iff_not, beq_iff_eq, beq_eq_false_iff_ne, bne_iff_ne, bne_eq_false_iff_eq, Bool.and_eq_true, Bool.and_eq_false_iff, Bool.or_eq_true, Bool.or_eq_false_iff, Bool.not_eq_true', Bool.not_eq_false', gt_iff_lt, ge_iff_le, Int.not_lt, Int.not_le, ne_eq, Int.natCast_nonneg, true_and, and_true, Decidable.not_not, not_true_eq_false, not_false_eq_true] at hb0
      rw [List.take_of_length_le (show xs.length ≤ k by omega)]
      refine Tr.exit ?_
      refine Fin.thenExit ?_
      refine Fin.thenExit ?_
      refine Fin.blockOut ?_
      refine Fin.next ?_
      refine Tr.seq ?_
      refine Tr.region ?_
      refine TrL.stepS 25 (.plain rfl (.move rfl (.of rfl))) rfl rfl ?_
      refine TrL.stepS 26 (.plain rfl (.move rfl (.of rfl))) rfl rfl ?_
      refine TrL.stepS 3 (.plain rfl (.assign rfl (.of rfl))) rfl rfl ?_
      refine TrL.stepS 4 (.plain rfl (.assign rfl (.of rfl))) rfl rfl ?_
      refine TrL.nil ?_
      refine Fin.keepG (Γ' := [(3, _), (4, _)]) (.same rfl (.same rfl .nil)) ?_
      refine Fin.next ?_
      refine Tr.ret ?_
      refine Fin.freeze 31 4 rfl rfl rfl ?_
      exact Fin.retGI 5 rfl (v3) [30] (rs := [_, _]) rfl (.cons (.tmp rfl) (.cons (.tmp rfl) .nil)) (.cons (L.iv rfl) (.cons (fun _ _ h => h) .nil)) rfl ((.same rfl .nil)) rfl

/- tidepool/tidepooltop.sameLeases34 -/
set_option maxRecDepth 100000 in
theorem F67 (xs ys : List Ls) (hx0 : xs.length ≤ 1048576) (hy0 : ys.length ≤ 1048576) : FnP Try.prog 67 [Lst leaseR xs, Lst leaseR ys] (is (.bool (decide (xs = ys)))) := by
  refine FnP.mk' Try.func67 T.nm67 rfl (N := 26) rfl rfl fun B hB hκ => ?_
  refine Tr.seq ?_
  refine Tr.region ?_
  refine TrL.stepS 4 (.plain rfl (.assign rfl (.of rfl))) rfl rfl ?_
  refine TrL.nil ?_
  refine Fin.keepG (Γ' := [(0, _), (1, _)]) (.same rfl (.same rfl .nil)) ?_
  refine Fin.next ?_
  refine Tr.seq ?_
  refine Tr.seq ?_
  refine Tr.region ?_
  refine TrL.stepS 6 (.plain rfl (.move rfl (.of rfl))) rfl rfl ?_
  refine TrL.stepS 7 (.plain rfl (.len rfl (.of rfl) Try.underlying103)) rfl rfl ?_
  refine TrL.stepS 8 (.plain rfl (.move rfl (.of rfl))) rfl rfl ?_
  refine TrL.stepS 9 (.plain rfl (.len rfl (.of rfl) Try.underlying103)) rfl rfl ?_
  refine TrL.stepS 10 (.plain rfl (.neq rfl (.of rfl) (.of rfl))) rfl rfl ?_
  refine TrL.nil ?_
  refine Fin.keepG (Γ' := [(0, _), (1, _), (10, _)]) (.same rfl (.same rfl (.same rfl .nil))) ?_
  refine Fin.next ?_
  refine Tr.cond rfl (fun hb0 => ?_) (fun hb0 => ?_)
  · try simp only [decide_eq_true_eq, decide_eq_false_iff_not, beq_iff_eq, beq_eq_false_iff_ne, bne_iff_ne, bne_eq_false_iff_eq, Bool.and_eq_true, Bool.and_eq_false_iff, Bool.or_eq_true, Bool.or_eq_false_iff, Bool.not_eq_true', Bool.not_eq_false', gt_iff_lt, ge_iff_le, Int.not_lt, Int.not_le, ne_eq, Int.natCast_nonneg, true_and, and_true, Decidable.not_not, not_true_eq_false, not_false_eq_true] at hb0
    refine Tr.seq ?_
    refine Tr.region ?_
    refine TrL.stepS 4 (.plain rfl (.assign rfl (.of rfl))) rfl rfl ?_
    refine TrL.nil ?_
    refine Fin.keepG (Γ' := [(4, _)]) (.same rfl .nil) ?_
    refine Fin.next ?_
    refine Tr.ret ?_
    refine Fin.thenRet ?_
    refine Fin.retI (rs := [_]) (Rs' := [is (.bool (decide (xs = ys)))]) rfl (.cons (.tmp rfl) .nil) (.cons (L.iv ?_) .nil)
    · congr 1; symm; exact decide_eq_false (fun h => by rw [h] at hb0; exact hb0 rfl)
  · try simp only [decide_eq_true_eq, decide_eq_false_iff_not, beq_iff_eq, beq_eq_false_iff_ne, bne_iff_ne, bne_eq_false_iff_eq, Bool.and_eq_true, Bool.and_eq_false_iff, Bool.or_eq_true, Bool.or_eq_false_iff, Bool.not_eq_true', Bool.not_eq_false', gt_iff_lt, ge_iff_le, Int.not_lt, Int.not_le, ne_eq, Int.natCast_nonneg, true_and, and_true, Decidable.not_not, not_true_eq_false, not_false_eq_true] at hb0
    have hle : xs.length = ys.length := by omega
    refine Tr.skip ?_
    refine Fin.next ?_
    refine Tr.seq ?_
    refine Tr.seq ?_
    refine Tr.region ?_
    refine TrL.stepS 11 (.plain rfl (.move rfl (.of rfl))) rfl rfl ?_
    refine TrL.stepS 12 (.plain rfl (.len rfl (.of rfl) Try.underlying103)) rfl rfl ?_
    refine TrL.stepS 13 (.plain rfl (.move rfl (.of rfl))) rfl rfl ?_
    refine TrL.nil ?_
    refine Fin.keepG (Γ' := [(0, _), (1, _), (12, _), (13, _)]) (.same rfl (.same rfl (.same rfl (.same rfl .nil)))) ?_
    refine Fin.next ?_
    refine Tr.block ?_
    refine Tr.loopK (γ := Nat) (Γk := [(0, _), (1, _), (12, _)]) (Mk := []) (.same rfl (.same rfl (.same rfl .nil))) .nil (fun i => i ≤ xs.length ∧ xs.take i = ys.take i) (fun i => fun r => r) (fun i => fun r => (13, is (.int .i64 i)) :: r) (fun i => xs.length - i) (0) ?h0_0 ?hM_0 ?hG_0 ?hl_0
    case h0_0 => exact ⟨Nat.zero_le _, rfl⟩
    case hM_0 => exact .nil
    case hG_0 => exact (.eq rfl (by first | rfl | (congr 1; first | done | omega | (push_cast; omega) | (push_cast; rfl))) (.same rfl (.same rfl (.same rfl .nil))))
    case hl_0 =>
      intro i hI
      obtain ⟨hi, hI⟩ := hI
      refine Tr.seq ?_
      refine Tr.region ?_
      refine TrL.stepS 14 (.plain rfl (.lss rfl (.of rfl) (.of rfl))) rfl rfl ?_
      refine TrL.nil ?_
      refine Fin.next ?_
      refine Tr.seq ?_
      refine Tr.cond rfl (fun hb1 => ?_) (fun hb1 => ?_)
      · try simp only [decide_eq_true_eq, decide_eq_false_iff_not, beq_iff_eq, beq_eq_false_iff_ne, bne_iff_ne, bne_eq_false_iff_eq, Bool.and_eq_true, Bool.and_eq_false_iff, Bool.or_eq_true, Bool.or_eq_false_iff, Bool.not_eq_true', Bool.not_eq_false', gt_iff_lt, ge_iff_le, Int.not_lt, Int.not_le, ne_eq, Int.natCast_nonneg, true_and, and_true, Decidable.not_not, not_true_eq_false, not_false_eq_true] at hb1
        obtain ⟨x, hx⟩ := ex_get (xs := xs) (i := i) (by omega)
        obtain ⟨y, hy⟩ := ex_get (xs := ys) (i := i) (by omega)
        refine Tr.skip ?_
        refine Fin.next ?_
        refine Tr.seq ?_
        refine Tr.block ?_
        refine Tr.seq ?_
        refine Tr.region ?_
        refine TrL.stepS 15 (.plain rfl (.move rfl (.of rfl))) rfl rfl ?_
        refine TrL.stepS 5 (.plain rfl (.assign rfl (.of rfl))) rfl rfl ?_
        refine TrL.nil ?_
        refine Fin.keepG (Γ' := [(0, _), (1, _), (5, _), (12, _), (13, _)]) (.same rfl (.same rfl (.same rfl (.same rfl (.same rfl .nil))))) ?_
        refine Fin.next ?_
        refine Tr.seq ?_
        refine Tr.regionK T.mixed (by kernel_rfl) (by kernel_rfl) ?_
        refine ChainK.consS 16 (.plain rfl (.move rfl (.of rfl))) rfl ?_
        refine ChainK.consS 17 (.plain rfl (.move rfl (.of rfl))) rfl ?_
        refine ChainK.consS 18 (.plain rfl (.indexE rfl (.of rfl) (.of rfl) Try.underlying103 T.sz97 (by omega) hx)) rfl ?_
        refine ChainK.consS 19 (.plain rfl (.load5 rfl (.of rfl) T.ag97)) rfl ?_
        refine ChainK.consS 20 (.plain rfl (.move rfl (.of rfl))) rfl ?_
        refine ChainK.consS 21 (.plain rfl (.move rfl (.of rfl))) rfl ?_
        refine ChainK.consS 22 (.plain rfl (.indexE rfl (.of rfl) (.of rfl) Try.underlying103 T.sz97 (by omega) hy)) rfl ?_
        refine ChainK.consS 23 (.plain rfl (.load5 rfl (.of rfl) T.ag97)) rfl ?_
        refine ChainK.consS 24 (.plain rfl (.neqS rfl (.of rfl) (.of rfl) (by kernel_rfl) (T.eq97 _ _ _ _ _ _ _ _ _ _))) rfl ?_
        refine ChainK.nil ?_
        refine Fin.keepG (Γ' := [(0, _), (1, _), (12, _), (13, _), (24, _)]) (.same rfl (.same rfl (.same rfl (.same rfl (.same rfl .nil))))) ?_
        refine Fin.next ?_
        refine Tr.cond rfl (fun hb2 => ?_) (fun hb2 => ?_)
        · have hr2 := hb2; try simp only [decide_eq_true_eq, decide_eq_false_iff_not, beq_iff_eq, beq_eq_false_iff_ne, bne_iff_ne, bne_eq_false_iff_eq, Bool.and_eq_true, Bool.and_eq_false_iff, Bool.or_eq_true, Bool.or_eq_false_iff, Bool.not_eq_true', Bool.not_eq_false', gt_iff_lt, ge_iff_le, Int.not_lt, Int.not_le, ne_eq, Int.natCast_nonneg, true_and, and_true, Decidable.not_not, not_true_eq_false, not_false_eq_true] at hb2
          have hxy : x ≠ y := lease_ne (by rw [Bool.not_eq_true'] at hr2; exact hr2)
          refine Tr.seq ?_
          refine Tr.region ?_
          refine TrL.stepS 4 (.plain rfl (.assign rfl (.of rfl))) rfl rfl ?_
          refine TrL.nil ?_
          refine Fin.keepG (Γ' := [(4, _)]) (.same rfl .nil) ?_
          refine Fin.next ?_
          refine Tr.ret ?_
          refine Fin.blockRet ?_
          refine Fin.thenRet ?_
          refine Fin.thenRet ?_
          refine Fin.blockRet ?_
          refine Fin.thenRet ?_
          refine Fin.retI (rs := [_]) (Rs' := [is (.bool (decide (xs = ys)))]) rfl (.cons (.tmp rfl) .nil) (.cons (L.iv ?_) .nil)
          · congr 1; symm; exact decide_eq_false (fun h => by subst h; rw [hx] at hy; cases hy; exact hxy rfl)
        · have hr2 := hb2; try simp only [decide_eq_true_eq, decide_eq_false_iff_not, beq_iff_eq, beq_eq_false_iff_ne, bne_iff_ne, bne_eq_false_iff_eq, Bool.and_eq_true, Bool.and_eq_false_iff, Bool.or_eq_true, Bool.or_eq_false_iff, Bool.not_eq_true', Bool.not_eq_false', gt_iff_lt, ge_iff_le, Int.not_lt, Int.not_le, ne_eq, Int.natCast_nonneg, true_and, and_true, Decidable.not_not, not_true_eq_false, not_false_eq_true] at hb2
          have hxy : x = y := lease_eq (by simpa using hr2)
          refine Tr.skip ?_
          refine Fin.blockNormal ?_
          refine Fin.next ?_
          refine Tr.region ?_
          first | refine TrL.stepS 25 (.plain rfl (.addI L.bd_i64 rfl (.of rfl) (.of rfl) (by omega) (by omega))) rfl rfl ?_ | refine TrL.stepS 25 (.plain rfl (.add rfl (.of rfl) (.of rfl))) rfl rfl ?_
          refine TrL.stepS 13 (.plain rfl (.move rfl (.of rfl))) rfl rfl ?_
          refine TrL.nil ?_
          refine Fin.keepG (Γ' := [(0, _), (1, _), (12, _), (13, _)]) (.same rfl (.same rfl (.same rfl (.same rfl .nil)))) ?_
          exact Fin.again (i + 1) (⟨by omega, by rw [take_snoc hx, take_snoc hy, hI, hxy]⟩) (by omega) .nil (.eq rfl (by first | rfl | (congr 1; first | done | omega | (push_cast; omega) | (push_cast; rfl))) (.same rfl (.same rfl (.same rfl .nil))))
      · try simp only [decide_eq_true_eq, decide_eq_false_iff_not, beq_iff_eq, beq_eq_false_iff_ne, bne_iff_ne, bne_eq_false_iff_eq, Bool.and_eq_true, Bool.and_eq_false_iff, Bool.or_eq_true, Bool.or_eq_false_iff, Bool.not_eq_true', Bool.not_eq_false', gt_iff_lt, ge_iff_le, Int.not_lt, Int.not_le, ne_eq, Int.natCast_nonneg, true_and, and_true, Decidable.not_not, not_true_eq_false, not_false_eq_true] at hb1
        refine Tr.exit ?_
        refine Fin.thenExit ?_
        refine Fin.thenExit ?_
        refine Fin.blockOut ?_
        refine Fin.next ?_
        refine Tr.seq ?_
        refine Tr.region ?_
        refine TrL.stepS 4 (.plain rfl (.assign rfl (.of rfl))) rfl rfl ?_
        refine TrL.nil ?_
        refine Fin.keepG (Γ' := [(4, _)]) (.same rfl .nil) ?_
        refine Fin.next ?_
        refine Tr.ret ?_
        refine Fin.retI (rs := [_]) (Rs' := [is (.bool (decide (xs = ys)))]) rfl (.cons (.tmp rfl) .nil) (.cons (L.iv ?_) .nil)
        · congr 1; symm; exact decide_eq_true (by rwa [List.take_of_length_le (by omega), List.take_of_length_le (by omega)] at hI)

/- tidepool/tidepooltop.sameLeases34 -/
set_option maxRecDepth 100000 in
theorem F67b (xs ys : List Ls) (hx0 : xs.length ≤ 1048576) (hy0 : ys.length ≤ 1048576) (v : Value) : FnG Try.prog 67 [Lst leaseR xs, is v] [View leaseR v ys] [] (γ := Unit) (fun _ => is (.bool (decide (xs = ys)))) (fun _ => []) := by
  refine FnG.mk' Try.func67 T.nm67 rfl (N := 26) rfl rfl (t := 3) rfl fun B => ?_
  refine Tr.seq ?_
  refine Tr.region ?_
  refine TrL.stepS 4 (.plain rfl (.assign rfl (.of rfl))) rfl rfl ?_
  refine TrL.nil ?_
  refine Fin.keepG (Γ' := [(0, _), (1, _)]) (.same rfl (.same rfl .nil)) ?_
  refine Fin.next ?_
  refine Tr.seq ?_
  refine Tr.seq ?_
  refine Tr.region ?_
  refine TrL.stepS 6 (.plain rfl (.move rfl (.of rfl))) rfl rfl ?_
  refine TrL.stepS 7 (.plain rfl (.len rfl (.of rfl) Try.underlying103)) rfl rfl ?_
  refine TrL.stepS 8 (.plain rfl (.move rfl (.of rfl))) rfl rfl ?_
  refine TrL.stepS 9 (.plain rfl (.lenV 2 rfl (.of rfl) rfl View.refl rfl Try.underlying103)) rfl rfl ?_
  refine TrL.stepS 10 (.plain rfl (.neq rfl (.of rfl) (.of rfl))) rfl rfl ?_
  refine TrL.nil ?_
  refine Fin.keepG (Γ' := [(0, _), (1, _), (10, _)]) (.same rfl (.same rfl (.same rfl .nil))) ?_
  refine Fin.next ?_
  refine Tr.cond rfl (fun hb0 => ?_) (fun hb0 => ?_)
  · try simp only [decide_eq_true_eq, decide_eq_false_iff_not, beq_iff_eq, beq_eq_false_iff_ne, bne_iff_ne, bne_eq_false_iff_eq, Bool.and_eq_true, Bool.and_eq_false_iff, Bool.or_eq_true, Bool.or_eq_false_iff, Bool.not_eq_true', Bool.not_eq_false', gt_iff_lt, ge_iff_le, Int.not_lt, Int.not_le, ne_eq, Int.natCast_nonneg, true_and, and_true, Decidable.not_not, not_true_eq_false, not_false_eq_true] at hb0
    refine Tr.seq ?_
    refine Tr.region ?_
    refine TrL.stepS 4 (.plain rfl (.assign rfl (.of rfl))) rfl rfl ?_
    refine TrL.nil ?_
    refine Fin.keepG (Γ' := [(4, _)]) (.same rfl .nil) ?_
    refine Fin.next ?_
    refine Tr.ret ?_
    refine Fin.thenRet ?_
    refine Fin.retGI 3 rfl (()) [] (rs := [_]) rfl (.cons (.tmp rfl) .nil) (.cons (L.iv ?_) .nil) rfl (.nil) rfl
    · congr 1; symm; exact decide_eq_false (fun h => by rw [h] at hb0; exact hb0 rfl)
  · try simp only [decide_eq_true_eq, decide_eq_false_iff_not, beq_iff_eq, beq_eq_false_iff_ne, bne_iff_ne, bne_eq_false_iff_eq, Bool.and_eq_true, Bool.and_eq_false_iff, Bool.or_eq_true, Bool.or_eq_false_iff, Bool.not_eq_true', Bool.not_eq_false', gt_iff_lt, ge_iff_le, Int.not_lt, Int.not_le, ne_eq, Int.natCast_nonneg, true_and, and_true, Decidable.not_not, not_true_eq_false, not_false_eq_true] at hb0
    have hle : xs.length = ys.length := by omega
    refine Tr.skip ?_
    refine Fin.next ?_
    refine Tr.seq ?_
    refine Tr.seq ?_
    refine Tr.region ?_
    refine TrL.stepS 11 (.plain rfl (.move rfl (.of rfl))) rfl rfl ?_
    refine TrL.stepS 12 (.plain rfl (.len rfl (.of rfl) Try.underlying103)) rfl rfl ?_
    refine TrL.stepS 13 (.plain rfl (.move rfl (.of rfl))) rfl rfl ?_
    refine TrL.nil ?_
    refine Fin.keepG (Γ' := [(0, _), (1, _), (12, _), (13, _)]) (.same rfl (.same rfl (.same rfl (.same rfl .nil)))) ?_
    refine Fin.next ?_
    refine Tr.block ?_
    refine Tr.loopK (γ := Nat) (Γk := [(0, _), (1, _), (12, _)]) (Mk := [(2, _)]) (.same rfl (.same rfl (.same rfl .nil))) (.same rfl .nil) (fun i => i ≤ xs.length ∧ xs.take i = ys.take i) (fun i => fun r => r) (fun i => fun r => (13, is (.int .i64 i)) :: r) (fun i => xs.length - i) (0) ?h0_0 ?hM_0 ?hG_0 ?hl_0
    case h0_0 => exact ⟨Nat.zero_le _, rfl⟩
    case hM_0 => exact (.same rfl .nil)
    case hG_0 => exact (.eq rfl (by first | rfl | (congr 1; first | done | omega | (push_cast; omega) | (push_cast; rfl))) (.same rfl (.same rfl (.same rfl .nil))))
    case hl_0 =>
      intro i hI
      obtain ⟨hi, hI⟩ := hI
      refine Tr.seq ?_
      refine Tr.region ?_
      refine TrL.stepS 14 (.plain rfl (.lss rfl (.of rfl) (.of rfl))) rfl rfl ?_
      refine TrL.nil ?_
      refine Fin.next ?_
      refine Tr.seq ?_
      refine Tr.cond rfl (fun hb1 => ?_) (fun hb1 => ?_)
      · try simp only [decide_eq_true_eq, decide_eq_false_iff_not, beq_iff_eq, beq_eq_false_iff_ne, bne_iff_ne, bne_eq_false_iff_eq, Bool.and_eq_true, Bool.and_eq_false_iff, Bool.or_eq_true, Bool.or_eq_false_iff, Bool.not_eq_true', Bool.not_eq_false', gt_iff_lt, ge_iff_le, Int.not_lt, Int.not_le, ne_eq, Int.natCast_nonneg, true_and, and_true, Decidable.not_not, not_true_eq_false, not_false_eq_true] at hb1
        obtain ⟨x, hx⟩ := ex_get (xs := xs) (i := i) (by omega)
        obtain ⟨y, hy⟩ := ex_get (xs := ys) (i := i) (by omega)
        refine Tr.skip ?_
        refine Fin.next ?_
        refine Tr.seq ?_
        refine Tr.block ?_
        refine Tr.seq ?_
        refine Tr.region ?_
        refine TrL.stepS 15 (.plain rfl (.move rfl (.of rfl))) rfl rfl ?_
        refine TrL.stepS 5 (.plain rfl (.assign rfl (.of rfl))) rfl rfl ?_
        refine TrL.nil ?_
        refine Fin.keepG (Γ' := [(0, _), (1, _), (5, _), (12, _), (13, _)]) (.same rfl (.same rfl (.same rfl (.same rfl (.same rfl .nil))))) ?_
        refine Fin.next ?_
        refine Tr.seq ?_
        refine Tr.regionK T.mixed (by kernel_rfl) (by kernel_rfl) ?_
        refine ChainK.consS 16 (.plain rfl (.move rfl (.of rfl))) rfl ?_
        refine ChainK.consS 17 (.plain rfl (.move rfl (.of rfl))) rfl ?_
        refine ChainK.consS 18 (.plain rfl (.indexE rfl (.of rfl) (.of rfl) Try.underlying103 T.sz97 (by omega) hx)) rfl ?_
        refine ChainK.consS 19 (.plain rfl (.load5 rfl (.of rfl) T.ag97)) rfl ?_
        refine ChainK.consS 20 (.plain rfl (.move rfl (.of rfl))) rfl ?_
        refine ChainK.consS 21 (.plain rfl (.move rfl (.of rfl))) rfl ?_
        refine ChainK.consS 22 (.plain rfl (.indexN 2 (i) rfl (.of rfl) (.of rfl) rfl View.refl rfl Try.underlying103 T.sz97 (by omega) (hy))) rfl ?_
        refine ChainK.consS 23 (.plain rfl (.loadWV 2 (i) 0 5 (ds := [_, _, _, _, _]) rfl (.of rfl) rfl View.refl rfl (hy) rfl rfl T.ag97)) rfl ?_
        refine ChainK.consS 24 (.plain rfl (.neqS rfl (.of rfl) (.of rfl) (by kernel_rfl) (T.eq97 _ _ _ _ _ _ _ _ _ _))) rfl ?_
        refine ChainK.nil ?_
        refine Fin.keepG (Γ' := [(0, _), (1, _), (12, _), (13, _), (24, _)]) (.same rfl (.same rfl (.same rfl (.same rfl (.same rfl .nil))))) ?_
        refine Fin.next ?_
        refine Tr.cond rfl (fun hb2 => ?_) (fun hb2 => ?_)
        · have hr2 := hb2; try simp only [decide_eq_true_eq, decide_eq_false_iff_not, beq_iff_eq, beq_eq_false_iff_ne, bne_iff_ne, bne_eq_false_iff_eq, Bool.and_eq_true, Bool.and_eq_false_iff, Bool.or_eq_true, Bool.or_eq_false_iff, Bool.not_eq_true', Bool.not_eq_false', gt_iff_lt, ge_iff_le, Int.not_lt, Int.not_le, ne_eq, Int.natCast_nonneg, true_and, and_true, Decidable.not_not, not_true_eq_false, not_false_eq_true] at hb2
          have hxy : x ≠ y := lease_ne (by rw [Bool.not_eq_true'] at hr2; exact hr2)
          refine Tr.seq ?_
          refine Tr.region ?_
          refine TrL.stepS 4 (.plain rfl (.assign rfl (.of rfl))) rfl rfl ?_
          refine TrL.nil ?_
          refine Fin.keepG (Γ' := [(4, _)]) (.same rfl .nil) ?_
          refine Fin.next ?_
          refine Tr.ret ?_
          refine Fin.blockRet ?_
          refine Fin.thenRet ?_
          refine Fin.thenRet ?_
          refine Fin.blockRet ?_
          refine Fin.thenRet ?_
          refine Fin.retGI 3 rfl (()) [] (rs := [_]) rfl (.cons (.tmp rfl) .nil) (.cons (L.iv ?_) .nil) rfl (.nil) rfl
          · congr 1; symm; exact decide_eq_false (fun h => by subst h; rw [hx] at hy; cases hy; exact hxy rfl)
        · have hr2 := hb2; try simp only [decide_eq_true_eq, decide_eq_false_iff_not, beq_iff_eq, beq_eq_false_iff_ne, bne_iff_ne, bne_eq_false_iff_eq, Bool.and_eq_true, Bool.and_eq_false_iff, Bool.or_eq_true, Bool.or_eq_false_iff, Bool.not_eq_true', Bool.not_eq_false', gt_iff_lt, ge_iff_le, Int.not_lt, Int.not_le, ne_eq, Int.natCast_nonneg, true_and, and_true, Decidable.not_not, not_true_eq_false, not_false_eq_true] at hb2
          have hxy : x = y := lease_eq (by simpa using hr2)
          refine Tr.skip ?_
          refine Fin.blockNormal ?_
          refine Fin.next ?_
          refine Tr.region ?_
          first | refine TrL.stepS 25 (.plain rfl (.addI L.bd_i64 rfl (.of rfl) (.of rfl) (by omega) (by omega))) rfl rfl ?_ | refine TrL.stepS 25 (.plain rfl (.add rfl (.of rfl) (.of rfl))) rfl rfl ?_
          refine TrL.stepS 13 (.plain rfl (.move rfl (.of rfl))) rfl rfl ?_
          refine TrL.nil ?_
          refine Fin.keepG (Γ' := [(0, _), (1, _), (12, _), (13, _)]) (.same rfl (.same rfl (.same rfl (.same rfl .nil)))) ?_
          exact Fin.again (i + 1) (⟨by omega, by rw [take_snoc hx, take_snoc hy, hI, hxy]⟩) (by omega) (.same rfl .nil) (.eq rfl (by first | rfl | (congr 1; first | done | omega | (push_cast; omega) | (push_cast; rfl))) (.same rfl (.same rfl (.same rfl .nil))))
      · try simp only [decide_eq_true_eq, decide_eq_false_iff_not, beq_iff_eq, beq_eq_false_iff_ne, bne_iff_ne, bne_eq_false_iff_eq, Bool.and_eq_true, Bool.and_eq_false_iff, Bool.or_eq_true, Bool.or_eq_false_iff, Bool.not_eq_true', Bool.not_eq_false', gt_iff_lt, ge_iff_le, Int.not_lt, Int.not_le, ne_eq, Int.natCast_nonneg, true_and, and_true, Decidable.not_not, not_true_eq_false, not_false_eq_true] at hb1
        refine Tr.exit ?_
        refine Fin.thenExit ?_
        refine Fin.thenExit ?_
        refine Fin.blockOut ?_
        refine Fin.next ?_
        refine Tr.seq ?_
        refine Tr.region ?_
        refine TrL.stepS 4 (.plain rfl (.assign rfl (.of rfl))) rfl rfl ?_
        refine TrL.nil ?_
        refine Fin.keepG (Γ' := [(4, _)]) (.same rfl .nil) ?_
        refine Fin.next ?_
        refine Tr.ret ?_
        refine Fin.retGI 3 rfl (()) [] (rs := [_]) rfl (.cons (.tmp rfl) .nil) (.cons (L.iv ?_) .nil) rfl (.nil) rfl
        · congr 1; symm; exact decide_eq_true (by rwa [List.take_of_length_le (by omega), List.take_of_length_le (by omega)] at hI)

end Go.Proofs.Ytemkogoclljhpaa