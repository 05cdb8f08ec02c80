import Derived.Test.YtemkogoclljhpaaY1
namespace Go.Proofs.Ytemkogoclljhpaa
open Go Go.Proofs.Ytemkogoclljhpaa.L
set_option linter.unusedVariables false
set_option linter.unusedSimpArgs false

namespace T
theorem Y2bd75_0_1 (c0 : Int) (c1 : Int) : Try.prog.built 75 [(0, .int .i64 c0), (1, .int .i64 c1)] = some #[.int .i64 c0, .int .i64 c1] := by kernel_rfl
theorem Y2bd81_0_1_2_3 (c0 : Bool) (c1 : Option Addr) (c1n : Nat) (c1c : Nat) (c2 : Option Addr) (c2n : Nat) (c2c : Nat) (c3 : Option Addr) (c3n : Nat) (c3c : Nat) : Try.prog.built 81 [(0, .bool c0), (1, .slice c1 c1n c1c), (2, .slice c2 c2n c2c), (3, .slice c3 c3n c3c)] = some #[.bool c0, .slice c1 c1n c1c, .slice c2 c2n c2c, .slice c3 c3n c3c] := by kernel_rfl
theorem Y2bd81_0_3 (c0 : Bool) (c3 : Option Addr) (c3n : Nat) (c3c : Nat) : Try.prog.built 81 [(0, .bool c0), (3, .slice c3 c3n c3c)] = some #[.bool c0, .slice none 0 0, .slice none 0 0, .slice c3 c3n c3c] := by kernel_rfl
end T


def nodeOf (n : Int) : Nd := (n.tmod 2 == 0, if n.tmod 3 > 0 then [⟨#[107]⟩, bytesS [n]] else [], if n.tmod 3 > 0 then [(n, 1)] else [], [n])
theorem nodeOf_ok (n : Int) : okN (nodeOf n) := by
  unfold okN nodeOf
  refine ⟨?_, ?_, by simp⟩ <;> (dsimp only; split <;> simp)

/- (tidepool/arena.Node).copied -/
set_option maxRecDepth 100000 in
theorem F119 (x : Nd) (hx : okN x) : FnP Try.prog 119 [AggR [is (.bool x.1), Lst strR x.2.1, Lst handR x.2.2.1, Lst (intR .i64) x.2.2.2]] (AggR [is (.bool x.1), Lst strR x.2.1, Lst handR x.2.2.1, Lst (intR .i64) x.2.2.2]) := by
  refine FnP.mk' Try.func119 T.nm119 rfl (N := 15) rfl rfl fun B hB hκ => ?_
  refine Tr.seq ?_
  refine Tr.region ?_
  refine TrL.stepS 1 (.plain rfl (.boxA rfl (.of rfl))) rfl rfl ?_
  refine TrL.allocR 21 (zs := [.bool false, .slice none 0 0, .slice none 0 0, .slice none 0 0]) rfl rfl (by kernel_rfl) 2 rfl rfl rfl fun b21 => ?_
  refine TrL.nil ?_
  refine Fin.keepG (Γ' := [(1, _), (2, _)]) (.same rfl (.same rfl .nil)) ?_
  refine Fin.next ?_
  refine Tr.seq ?_
  refine Tr.regionW [([], [], []), ([], [], []), ([], [], []), ([], [], []), ([], [], []), ([], [], []), ([], [], []), ([], [], []), ([], [], []), ([], [], []), ([], [], []), ([], [], []), ([21], [21], [])] T.mixed (by kernel_rfl) (by kernel_rfl) (by kernel_rfl) (by kernel_rfl) ?_
  refine AChain.rd 3 rfl (fun σ => .plain rfl (.fieldC rfl (.of rfl) T.fl81_0)) rfl rfl (fun _ _ => rfl) (L.Dep.const) ?_
  refine AChain.rd 4 rfl (fun σ => .plain rfl (.load1 rfl (.of rfl) T.sc4)) rfl rfl (fun _ _ => rfl) (L.Dep.const) ?_
  refine AChain.rd 5 rfl (fun σ => .plain rfl (.fieldC rfl (.of rfl) T.fl81_1)) rfl rfl (fun _ _ => rfl) (L.Dep.const) ?_
  refine AChain.rd 6 rfl (fun σ => .plain rfl (.load1 rfl (.of rfl) T.sc77)) rfl rfl (fun _ _ => rfl) (L.Dep.const) ?_
  refine AChain.rd 7 rfl (fun σ => .plain rfl (.call rfl (F162 x.2.1 hx.1) (.cons (.of rfl) .nil))) rfl rfl (fun _ _ => rfl) (L.Dep.const) ?_
  refine AChain.rd 8 rfl (fun σ => .plain rfl (.fieldC rfl (.of rfl) T.fl81_2)) rfl rfl (fun _ _ => rfl) (L.Dep.const) ?_
  refine AChain.rd 9 rfl (fun σ => .plain rfl (.load1 rfl (.of rfl) T.sc78)) rfl rfl (fun _ _ => rfl) (L.Dep.const) ?_
  refine AChain.rd 10 rfl (fun σ => .plain rfl (.call rfl (F163 x.2.2.1 hx.2.1) (.cons (.of rfl) .nil))) rfl rfl (fun _ _ => rfl) (L.Dep.const) ?_
  refine AChain.rd 11 rfl (fun σ => .plain rfl (.fieldC rfl (.of rfl) T.fl81_3)) rfl rfl (fun _ _ => rfl) (L.Dep.const) ?_
  refine AChain.rd 12 rfl (fun σ => .plain rfl (.load1 rfl (.of rfl) T.sc79)) rfl rfl (fun _ _ => rfl) (L.Dep.const) ?_
  refine AChain.rd 13 rfl (fun σ => .plain rfl (.call rfl (F164 x.2.2.2 hx.2.2) (.cons (.of rfl) .nil))) rfl rfl (fun _ _ => rfl) (L.Dep.const) ?_
  refine AChain.rd 14 rfl (fun σ => .plain rfl (.buildF (Ss := [is (.bool x.1), Lst strR x.2.1, Lst handR x.2.2.1, Lst (intR .i64) x.2.2.2]) rfl (.cons (.of rfl) (.cons (.of rfl) (.cons (.of rfl) (.cons (.of rfl) .nil)))) (fun w vs h => by rcases h with _ | ⟨rfl, _ | ⟨⟨A1, c1, rfl, q1⟩, _ | ⟨⟨A2, c2, rfl, q2⟩, _ | ⟨⟨A3, c3, rfl, q3⟩, _ | _⟩⟩⟩⟩; exact ⟨_, T.Y2bd81_0_1_2_3 .., .cons (rfl) (.cons (⟨_, _, rfl, q1⟩) (.cons (⟨_, _, rfl, q2⟩) (.cons (⟨_, _, rfl, q3⟩) (.nil))))⟩))) rfl rfl (fun _ _ => rfl) (L.Dep.const) ?_
  refine AChain.wr1 21 rfl rfl rfl rfl (fun w0 κ0 σ => TrL.storeRW 21 rfl rfl rfl (.of rfl) (.of rfl) rfl rfl ((L.all1_cons (L.h1is rfl rfl) (L.all1_cons (L.h1lst) (L.all1_cons (L.h1lst) (L.all1_cons (L.h1lst) L.all1_nil))))) T.sz81 rfl (TrL.done0 (.free rfl .nil))) ?_
  refine AChain.nil ?_
  intro s1
  refine Fin.keepG (Γ' := [(2, _)]) (.same rfl .nil) ?_
  refine Fin.next ?_
  refine Tr.ret ?_
  exact Fin.retI (rs := [_]) (Rs' := [AggR [is (.bool x.1), Lst strR x.2.1, Lst handR x.2.2.1, Lst (intR .i64) x.2.2.2]]) rfl (.cons (.cellR 21 (k := 4) rfl rfl rfl rfl T.ag81 rfl) .nil) (.cons (fun _ _ h => h) .nil)

/- (tidepool/arena.Node).copied -/
set_option maxRecDepth 100000 in
theorem F119b (x : Nd) (hx : okN x) (v : Value) : FnG Try.prog 119 [AggR [is (.bool x.1), Lst strR x.2.1, Lst handR x.2.2.1, is v]] [View (intR .i64) v x.2.2.2] [] (γ := Unit) (fun _ => AggR [is (.bool x.1), Lst strR x.2.1, Lst handR x.2.2.1, Lst (intR .i64) x.2.2.2]) (fun _ => []) := by
  refine FnG.mk' Try.func119 T.nm119 rfl (N := 15) rfl rfl (t := 3) rfl fun B => ?_
  refine Tr.seq ?_
  refine Tr.region ?_
  refine TrL.boxF 20 rfl rfl (.of rfl) 1 rfl rfl rfl fun b20 => ?_
  refine TrL.allocR 21 (zs := [.bool false, .slice none 0 0, .slice none 0 0, .slice none 0 0]) rfl rfl (by kernel_rfl) 2 rfl rfl rfl fun b21 => ?_
  refine TrL.nil ?_
  refine Fin.keepG (Γ' := [(1, _), (2, _)]) (.same rfl (.same rfl .nil)) ?_
  refine Fin.next ?_
  refine Tr.seq ?_
  refine Tr.regionW [([20], [], []), ([20], [], []), ([20], [], []), ([20], [], []), ([], [], []), ([20], [], []), ([20], [], []), ([], [], []), ([20], [], []), ([20], [], []), ([2], [], []), ([], [], []), ([21], [21], [])] T.mixed (by kernel_rfl) (by kernel_rfl) (by kernel_rfl) (by kernel_rfl) ?_
  refine AChain.rd 3 rfl (fun σ => .plain rfl (.fieldP rfl (.of rfl) T.fl81_0)) rfl rfl (fun _ _ => rfl) (L.Dep.const) ?_
  refine AChain.rd 4 rfl (fun σ => .plain rfl (.loadR 20 rfl (.of rfl) rfl rfl rfl T.sc4)) rfl rfl (fun _ _ => rfl) (L.Dep.const) ?_
  refine AChain.rd 5 rfl (fun σ => .plain rfl (.fieldP rfl (.of rfl) T.fl81_1)) rfl rfl (fun _ _ => rfl) (L.Dep.const) ?_
  refine AChain.rd 6 rfl (fun σ => .plain rfl (.loadR 20 rfl (.of rfl) rfl rfl rfl T.sc77)) rfl rfl (fun _ _ => rfl) (L.Dep.const) ?_
  refine AChain.rd 7 rfl (fun σ => .plain rfl (.call rfl (F162 x.2.1 hx.1) (.cons (.of rfl) .nil))) rfl rfl (fun _ _ => rfl) (L.Dep.const) ?_
  refine AChain.rd 8 rfl (fun σ => .plain rfl (.fieldP rfl (.of rfl) T.fl81_2)) rfl rfl (fun _ _ => rfl) (L.Dep.const) ?_
  refine AChain.rd 9 rfl (fun σ => .plain rfl (.loadR 20 rfl (.of rfl) rfl rfl rfl T.sc78)) rfl rfl (fun _ _ => rfl) (L.Dep.const) ?_
  refine AChain.rd 10 rfl (fun σ => .plain rfl (.call rfl (F163 x.2.2.1 hx.2.1) (.cons (.of rfl) .nil))) rfl rfl (fun _ _ => rfl) (L.Dep.const) ?_
  refine AChain.rd 11 rfl (fun σ => .plain rfl (.fieldP rfl (.of rfl) T.fl81_3)) rfl rfl (fun _ _ => rfl) (L.Dep.const) ?_
  refine AChain.rd 12 rfl (fun σ => .plain rfl (.loadR 20 rfl (.of rfl) rfl rfl rfl T.sc79)) rfl rfl (fun _ _ => rfl) (L.Dep.const) ?_
  refine AChain.rd 13 rfl (fun σ => .plain rfl (.callR [2] rfl (F164b v x.2.2.2 hx.2.2) (.cons (.of rfl) .nil) (.same rfl .nil) rfl)) rfl rfl (fun _ _ => rfl) (L.Dep.const) ?_
  refine AChain.rd 14 rfl (fun σ => .plain rfl (.buildF (Ss := [is (.bool x.1), Lst strR x.2.1, Lst handR x.2.2.1, Lst (intR .i64) x.2.2.2]) rfl (.cons (.of rfl) (.cons (.of rfl) (.cons (.of rfl) (.cons (.of rfl) .nil)))) (fun w vs h => by rcases h with _ | ⟨rfl, _ | ⟨⟨A1, c1, rfl, q1⟩, _ | ⟨⟨A2, c2, rfl, q2⟩, _ | ⟨⟨A3, c3, rfl, q3⟩, _ | _⟩⟩⟩⟩; exact ⟨_, T.Y2bd81_0_1_2_3 .., .cons (rfl) (.cons (⟨_, _, rfl, q1⟩) (.cons (⟨_, _, rfl, q2⟩) (.cons (⟨_, _, rfl, q3⟩) (.nil))))⟩))) rfl rfl (fun _ _ => rfl) (L.Dep.const) ?_
  refine AChain.wr1 21 rfl rfl rfl rfl (fun w0 κ0 σ => TrL.storeRW 21 rfl rfl rfl (.of rfl) (.of rfl) rfl rfl ((L.all1_cons (L.h1is rfl rfl) (L.all1_cons (L.h1lst) (L.all1_cons (L.h1lst) (L.all1_cons (L.h1lst) L.all1_nil))))) T.sz81 rfl (TrL.done0 (.free rfl .nil))) ?_
  refine AChain.nil ?_
  intro s1
  refine Fin.keepG (Γ' := [(2, _)]) (.same rfl .nil) ?_
  refine Fin.next ?_
  refine Tr.ret ?_
  exact Fin.retGI 3 rfl (()) [] (rs := [_]) rfl (.cons (.cellR 21 (k := 4) rfl rfl rfl rfl T.ag81 rfl) .nil) (.cons (fun _ _ h => h) .nil) rfl (.nil) rfl

/- tidepool/arena.Same -/
set_option maxRecDepth 100000 in
theorem F49 (x y : Nd) (hx : okN x) (hy : okN y) : FnP Try.prog 49 [AggR [is (.bool x.1), Lst strR x.2.1, Lst handR x.2.2.1, Lst (intR .i64) x.2.2.2], AggR [is (.bool y.1), Lst strR y.2.1, Lst handR y.2.2.1, Lst (intR .i64) y.2.2.2]] (is (.bool (decide (x = y)))) := by
  refine FnP.mk' Try.func49 T.nm49 rfl (N := 31) rfl rfl fun B hB hκ => ?_
  refine Tr.seq ?_
  refine Tr.region ?_
  refine TrL.stepS 2 (.plain rfl (.boxA rfl (.of rfl))) rfl rfl ?_
  refine TrL.stepS 3 (.plain rfl (.boxA rfl (.of rfl))) rfl rfl ?_
  refine TrL.stepS 4 (.plain rfl (.assign rfl (.of rfl))) rfl rfl ?_
  refine TrL.nil ?_
  refine Fin.keepG (Γ' := [(2, _), (3, _)]) (.same rfl (.same rfl .nil)) ?_
  refine Fin.next ?_
  refine Tr.seq ?_
  refine Tr.region ?_
  refine TrL.stepS 5 (.plain rfl (.fieldC rfl (.of rfl) T.fl81_0)) rfl rfl ?_
  refine TrL.stepS 6 (.plain rfl (.load1 rfl (.of rfl) T.sc4)) rfl rfl ?_
  refine TrL.stepS 7 (.plain rfl (.fieldC rfl (.of rfl) T.fl81_0)) rfl rfl ?_
  refine TrL.stepS 8 (.plain rfl (.load1 rfl (.of rfl) T.sc4)) rfl rfl ?_
  refine TrL.stepS 9 (.plain rfl (.eqlB rfl (.of rfl) (.of rfl) Try.underlying4)) rfl rfl ?_
  refine TrL.stepS 10 (.plain rfl (.move rfl (.of rfl))) rfl rfl ?_
  refine TrL.stepS 11 (.guarded rfl rfl rfl fun hg => .fieldC rfl (.of rfl) T.fl81_1) rfl rfl ?_
  refine TrL.stepS 12 (.guarded rfl rfl rfl fun hg => .load1 rfl (.cond rfl hg) T.sc77) rfl rfl ?_
  refine TrL.stepS 13 (.guarded rfl rfl rfl fun hg => .fieldC rfl (.of rfl) T.fl81_1) rfl rfl ?_
  refine TrL.stepS 14 (.guarded rfl rfl rfl fun hg => .load1 rfl (.cond rfl hg) T.sc77) rfl rfl ?_
  refine TrL.stepS 15 (.guarded rfl rfl rfl fun hg => .call rfl (F122 x.2.1 y.2.1 (by have := hx.1; omega) (by have := hy.1; omega)) (.cons (.cond rfl hg) (.cons (.cond rfl hg) .nil))) rfl rfl ?_
  refine TrL.stepS 16 (.plain rfl (.and rfl (.of rfl) (.cond rfl fun h => h))) rfl rfl ?_
  refine TrL.stepS 17 (.plain rfl (.move rfl (.of rfl))) rfl rfl ?_
  refine TrL.stepS 18 (.guarded rfl rfl rfl fun hg => .fieldC rfl (.of rfl) T.fl81_2) rfl rfl ?_
  refine TrL.stepS 19 (.guarded rfl rfl rfl fun hg => .load1 rfl (.cond rfl hg) T.sc78) rfl rfl ?_
  refine TrL.stepS 20 (.guarded rfl rfl rfl fun hg => .fieldC rfl (.of rfl) T.fl81_2) rfl rfl ?_
  refine TrL.stepS 21 (.guarded rfl rfl rfl fun hg => .load1 rfl (.cond rfl hg) T.sc78) rfl rfl ?_
  refine TrL.stepS 22 (.guarded rfl rfl rfl fun hg => .call rfl (F123 x.2.2.1 y.2.2.1 (by have := hx.2.1; omega) (by have := hy.2.1; omega)) (.cons (.cond rfl hg) (.cons (.cond rfl hg) .nil))) rfl rfl ?_
  refine TrL.stepS 23 (.plain rfl (.and rfl (.of rfl) (.cond rfl fun h => h))) rfl rfl ?_
  refine TrL.stepS 24 (.plain rfl (.move rfl (.of rfl))) rfl rfl ?_
  refine TrL.stepS 25 (.guarded rfl rfl rfl fun hg => .fieldC rfl (.of rfl) T.fl81_3) rfl rfl ?_
  refine TrL.stepS 26 (.guarded rfl rfl rfl fun hg => .load1 rfl (.cond rfl hg) T.sc79) rfl rfl ?_
  refine TrL.stepS 27 (.guarded rfl rfl rfl fun hg => .fieldC rfl (.of rfl) T.fl81_3) rfl rfl ?_
  refine TrL.stepS 28 (.guarded rfl rfl rfl fun hg => .load1 rfl (.cond rfl hg) T.sc79) rfl rfl ?_
  refine TrL.stepS 29 (.guarded rfl rfl rfl fun hg => .call rfl (F124 x.2.2.2 y.2.2.2 (by have := hx.2.2; omega) (by have := hy.2.2; omega)) (.cons (.cond rfl hg) (.cons (.cond rfl hg) .nil))) rfl rfl ?_
  refine TrL.stepS 30 (.plain rfl (.and rfl (.of rfl) (.cond rfl fun h => h))) rfl rfl ?_
  refine TrL.stepS 4 (.plain rfl (.assign rfl (.of rfl))) rfl rfl ?_
  refine TrL.nil ?_
  refine Fin.keepG (Γ' := [(4, _)]) (.same rfl .nil) ?_
  refine Fin.next ?_
  refine Tr.ret ?_
  refine Fin.retI (rs := [_]) (Rs' := [is (.bool (decide (x = y)))]) rfl (.cons (.tmp rfl) .nil) (.cons (L.iv ?_) .nil)
  · congr 1; rw [Bool.eq_iff_iff]; obtain ⟨a, b, c, d⟩ := x; obtain ⟨a', b', c', d'⟩ := y; simp [Prod.ext_iff, and_assoc]

/- tidepool/tidepooltop.node34 -/
set_option maxRecDepth 100000 in
theorem F50 (n : Int) (hn : 0 ≤ n ∧ n ≤ 255) : FnP Try.prog 50 [is (.int .u8 n)] (AggR [is (.bool (nodeOf n).1), Lst strR (nodeOf n).2.1, Lst handR (nodeOf n).2.2.1, Lst (intR .i64) (nodeOf n).2.2.2]) := by
  refine FnP.mk' Try.func50 T.nm50 rfl (N := 25) rfl rfl fun B hB hκ => ?_
  refine Tr.seq ?_
  refine Tr.region ?_
  refine TrL.allocR 20 (zs := [.bool false, .slice none 0 0, .slice none 0 0, .slice none 0 0]) rfl rfl (by kernel_rfl) 2 rfl rfl rfl fun b20 => ?_
  refine TrL.nil ?_
  refine Fin.next ?_
  refine Tr.seq ?_
  refine Tr.region ?_
  refine TrL.stepS 4 (.plain rfl (.move rfl (.of rfl))) rfl rfl ?_
  refine TrL.stepS 5 (.plain rfl (.rem rfl (.of rfl) (.of rfl) (by omega))) rfl rfl ?_
  refine TrL.stepS 6 (.plain rfl (.eql rfl (.of rfl) (.of rfl))) rfl rfl ?_
  refine TrL.stepS 7 (.plain rfl (.move rfl (.of rfl))) rfl rfl ?_
  first | refine TrL.stepS 8 (.plain rfl (.convI L.bd_i64 rfl (.of rfl) T.us5 Try.underlying3 (by omega) (by omega))) rfl rfl ?_ | refine TrL.stepS 8 (.plain rfl (.conv rfl (.of rfl) T.us5 Try.underlying3)) rfl rfl ?_
  refine TrL.stepS 9 (.plain rfl (.slice (K := (intR .i64)) (xs := [_]) rfl (.cons (.map (.of rfl) (intR_elem _)) .nil) Try.underlying79 T.sz3 T.zb3 rfl (by decide))) rfl rfl ?_
  refine TrL.stepS 10 (.plain rfl (.buildF (Ss := [is (.bool (n.tmod 2 == 0)), Lst strR [], Lst handR [], Lst (intR .i64) [n]]) rfl (.cons (.of rfl) (.cons (.of rfl) .nil)) (fun w vs h => by rcases h with _ | ⟨rfl, _ | ⟨⟨A3, c3, rfl, q3⟩, _ | _⟩⟩; exact ⟨_, T.Y2bd81_0_3 .., .cons (rfl) (.cons (L.lst_nil' rfl) (.cons (L.lst_nil' rfl) (.cons (⟨_, _, rfl, q3⟩) (.nil))))⟩))) rfl rfl ?_
  refine TrL.allocR 21 (zs := [.bool false, .slice none 0 0, .slice none 0 0, .slice none 0 0]) rfl rfl (by kernel_rfl) 3 rfl rfl rfl fun b21 => ?_
  refine TrL.storeRW 21 rfl rfl rfl (.of rfl) (.of rfl) rfl rfl ((L.all1_cons (L.h1is rfl rfl) (L.all1_cons (L.h1lst) (L.all1_cons (L.h1lst) (L.all1_cons (L.h1lst) L.all1_nil))))) T.sz81 rfl ?_
  refine TrL.nil ?_
  refine Fin.keepG (Γ' := [(0, _), (2, _), (3, _)]) (.same rfl (.same rfl (.same rfl .nil))) ?_
  refine Fin.next ?_
  refine Tr.seq ?_
  refine Tr.seq ?_
  refine Tr.region ?_
  refine TrL.stepS 11 (.plain rfl (.move rfl (.of rfl))) rfl rfl ?_
  refine TrL.stepS 12 (.plain rfl (.rem rfl (.of rfl) (.of rfl) (by omega))) rfl rfl ?_
  refine TrL.stepS 13 (.plain rfl (.gtr rfl (.of rfl) (.of rfl))) rfl rfl ?_
  refine TrL.nil ?_
  refine Fin.keepG (Γ' := [(0, _), (2, _), (3, _), (13, _)]) (.same rfl (.same rfl (.same rfl (.same rfl .nil)))) ?_
  refine Fin.next ?_
  refine Tr.cond rfl (fun hb0 => ?_) (fun hb0 => ?_)
  · try simp only [decide_eq_true_eq, decide_eq_false_iff_not, beq_iff_eq, beq_eq_false_iff_ne, bne_iff_ne, bne_eq_false_iff_eq, Bool.and_eq_true, Bool.and_eq_false_iff, Bool.or_eq_true, Bool.or_eq_false_iff, Bool.not_eq_true', Bool.not_eq_false', gt_iff_lt, ge_iff_le, Int.not_lt, Int.not_le, ne_eq, Int.natCast_nonneg, true_and, and_true, Decidable.not_not, not_true_eq_false, not_false_eq_true] at hb0
    refine Tr.region ?_
    refine TrL.stepS 14 (.plain rfl (.move rfl (.of rfl))) rfl rfl ?_
    refine TrL.stepS 15 (.plain rfl (.slice (K := (intR .u8)) (xs := [_]) rfl (.cons (.map (.of rfl) (intR_elem _)) .nil) Try.underlying46 T.sz5 T.zb5 rfl (by decide))) rfl rfl ?_
    refine TrL.stepS 16 (.plain rfl (.bytesToStr rfl (.of rfl) Try.underlying46 Try.underlying5 Try.underlying9)) rfl rfl ?_
    refine TrL.stepS 17 (.plain rfl (.slice (K := strR) (xs := [_, _]) rfl (.cons (.map (.of rfl) (strR_elem _)) (.cons (.map (.of rfl) (strR_elem _)) .nil)) Try.underlying77 T.sz9 T.zb9 rfl (by decide))) rfl rfl ?_
    refine TrL.stepS 18 (.plain rfl (.move rfl (.of rfl))) rfl rfl ?_
    first | refine TrL.stepS 19 (.plain rfl (.convI L.bd_i64 rfl (.of rfl) T.us5 Try.underlying3 (by omega) (by omega))) rfl rfl ?_ | refine TrL.stepS 19 (.plain rfl (.conv rfl (.of rfl) T.us5 Try.underlying3)) rfl rfl ?_
    refine TrL.stepS 20 (.plain rfl (.build rfl (.cons (.of rfl) (.cons (.of rfl) .nil)) (T.Y2bd75_0_1 _ _))) rfl rfl ?_
    refine TrL.stepS 21 (.plain rfl (.slice (K := handR) (xs := [_]) rfl (.cons (.map (.of rfl) (handR_elem _ _)) .nil) Try.underlying78 T.sz75 T.zb75 rfl (by decide))) rfl rfl ?_
    refine TrL.stepS 22 (.plain rfl (.fieldP rfl (.of rfl) T.fl81_1)) rfl rfl ?_
    refine TrL.storeR1 21 rfl rfl rfl (.of rfl) (.of rfl) rfl rfl (L.h1lst) T.sz77 rfl ?_
    refine TrL.stepS 23 (.plain rfl (.fieldP rfl (.of rfl) T.fl81_2)) rfl rfl ?_
    refine TrL.storeR1 21 rfl rfl rfl (.of rfl) (.of rfl) rfl rfl (L.h1lst) T.sz78 rfl ?_
    refine TrL.nil ?_
    refine Fin.keepG (Γ' := [(2, _), (3, _)]) (.same rfl (.same rfl .nil)) ?_
    refine Fin.next ?_
    refine Tr.seq ?_
    refine Tr.region ?_
    refine TrL.stepS 24 (.plain rfl (.loadRN 21 (k := 4) rfl (.of rfl) rfl rfl rfl T.ag81 rfl)) rfl rfl ?_
    refine TrL.storeRW 20 rfl rfl rfl (.of rfl) (.of rfl) rfl rfl ((L.all1_cons (L.h1is rfl rfl) (L.all1_cons (L.h1lst) (L.all1_cons (L.h1lst) (L.all1_cons (L.h1lst) L.all1_nil))))) T.sz81 rfl ?_
    refine TrL.nil ?_
    refine Fin.keepG (Γ' := [(2, _)]) (.same rfl .nil) ?_
    refine Fin.next ?_
    refine Tr.ret ?_
    exact Fin.retI (rs := [_]) (Rs' := [AggR [is (.bool (nodeOf n).1), Lst strR (nodeOf n).2.1, Lst handR (nodeOf n).2.2.1, Lst (intR .i64) (nodeOf n).2.2.2]]) rfl (.cons (.cellR 20 (k := 4) rfl rfl rfl rfl T.ag81 rfl) .nil) (.cons ((fun v w h => by simp only [nodeOf, if_pos hb0]; exact h)) .nil)
  · try simp only [decide_eq_true_eq, decide_eq_false_iff_not, beq_iff_eq, beq_eq_false_iff_ne, bne_iff_ne, bne_eq_false_iff_eq, Bool.and_eq_true, Bool.and_eq_false_iff, Bool.or_eq_true, Bool.or_eq_false_iff, Bool.not_eq_true', Bool.not_eq_false', gt_iff_lt, ge_iff_le, Int.not_lt, Int.not_le, ne_eq, Int.natCast_nonneg, true_and, and_true, Decidable.not_not, not_true_eq_false, not_false_eq_true] at hb0
    refine Tr.skip ?_
    refine Fin.next ?_
    refine Tr.seq ?_
    refine Tr.region ?_
    refine TrL.stepS 24 (.plain rfl (.loadRN 21 (k := 4) rfl (.of rfl) rfl rfl rfl T.ag81 rfl)) rfl rfl ?_
    refine TrL.storeRW 20 rfl rfl rfl (.of rfl) (.of rfl) rfl rfl ((L.all1_cons (L.h1is rfl rfl) (L.all1_cons (L.h1lst) (L.all1_cons (L.h1lst) (L.all1_cons (L.h1lst) L.all1_nil))))) T.sz81 rfl ?_
    refine TrL.nil ?_
    refine Fin.keepG (Γ' := [(2, _)]) (.same rfl .nil) ?_
    refine Fin.next ?_
    refine Tr.ret ?_
    exact Fin.retI (rs := [_]) (Rs' := [AggR [is (.bool (nodeOf n).1), Lst strR (nodeOf n).2.1, Lst handR (nodeOf n).2.2.1, Lst (intR .i64) (nodeOf n).2.2.2]]) rfl (.cons (.cellR 20 (k := 4) rfl rfl rfl rfl T.ag81 rfl) .nil) (.cons ((fun v w h => by simp only [nodeOf, if_neg (Int.not_lt.2 hb0)]; exact h)) .nil)

/- tidepool/tidepooltop.node34 -/
set_option maxRecDepth 100000 in
theorem F50b (n : Int) (hn : 0 ≤ n ∧ n ≤ 255) : FnG Try.prog 50 [is (.int .u8 n)] [] [] (γ := Value) (fun vv => AggR [is (.bool (nodeOf n).1), Lst strR (nodeOf n).2.1, Lst handR (nodeOf n).2.2.1, is vv]) (fun vv => [Own (intR .i64) 3 vv [n]]) := by
  refine FnG.mk' Try.func50 T.nm50 rfl (N := 25) rfl rfl (t := 2) rfl fun B => ?_
  refine Tr.seq ?_
  refine Tr.region ?_
  refine TrL.allocR 20 (zs := [.bool false, .slice none 0 0, .slice none 0 0, .slice none 0 0]) rfl rfl (by kernel_rfl) 2 rfl rfl rfl fun b20 => ?_
  refine TrL.nil ?_
  refine Fin.next ?_
  refine Tr.seq ?_
  refine Tr.region ?_
  refine TrL.stepS 4 (.plain rfl (.move rfl (.of rfl))) rfl rfl ?_
  refine TrL.stepS 5 (.plain rfl (.rem rfl (.of rfl) (.of rfl) (by omega))) rfl rfl ?_
  refine TrL.stepS 6 (.plain rfl (.eql rfl (.of rfl) (.of rfl))) rfl rfl ?_
  refine TrL.stepS 7 (.plain rfl (.move rfl (.of rfl))) rfl rfl ?_
  first | refine TrL.stepS 8 (.plain rfl (.convI L.bd_i64 rfl (.of rfl) T.us5 Try.underlying3 (by omega) (by omega))) rfl rfl ?_ | refine TrL.stepS 8 (.plain rfl (.conv rfl (.of rfl) T.us5 Try.underlying3)) rfl rfl ?_
  refine TrL.sliceOwn 30 (K := (intR .i64)) (xs := [_]) rfl rfl 9 rfl rfl (.cons (.map (.of rfl) (intR_elem _)) .nil) Try.underlying79 T.sz3 T.zb3 rfl (by decide) rfl fun v9 hv9 => ?_
  refine TrL.memP 30 rfl rfl own_form fun hf => ?_
  obtain ⟨A, c, rfl, hc⟩ := hf
  refine TrL.stepS 10 (.plain rfl (.buildF (Ss := [is (.bool (n.tmod 2 == 0)), Lst strR [], Lst handR [], is (.slice A [n].length c)]) rfl (.cons (.of rfl) (.cons (.of rfl) .nil)) (fun w vs h => by rcases h with _ | ⟨rfl, _ | ⟨rfl, _ | _⟩⟩; exact ⟨_, T.Y2bd81_0_3 .., .cons (rfl) (.cons (L.lst_nil' rfl) (.cons (L.lst_nil' rfl) (.cons (rfl) (.nil))))⟩))) rfl rfl ?_
  refine TrL.allocR 21 (zs := [.bool false, .slice none 0 0, .slice none 0 0, .slice none 0 0]) rfl rfl (by kernel_rfl) 3 rfl rfl rfl fun b21 => ?_
  refine TrL.storeRW 21 rfl rfl rfl (.of rfl) (.of rfl) rfl rfl ((L.all1_cons (L.h1is rfl rfl) (L.all1_cons (L.h1lst) (L.all1_cons (L.h1lst) (L.all1_cons (L.h1is rfl rfl) L.all1_nil))))) T.sz81 rfl ?_
  refine TrL.nil ?_
  refine Fin.keepG (Γ' := [(0, _), (2, _), (3, _)]) (.same rfl (.same rfl (.same rfl .nil))) ?_
  refine Fin.next ?_
  refine Tr.seq ?_
  refine Tr.seq ?_
  refine Tr.region ?_
  refine TrL.stepS 11 (.plain rfl (.move rfl (.of rfl))) rfl rfl ?_
  refine TrL.stepS 12 (.plain rfl (.rem rfl (.of rfl) (.of rfl) (by omega))) rfl rfl ?_
  refine TrL.stepS 13 (.plain rfl (.gtr rfl (.of rfl) (.of rfl))) rfl rfl ?_
  refine TrL.nil ?_
  refine Fin.keepG (Γ' := [(0, _), (2, _), (3, _), (13, _)]) (.same rfl (.same rfl (.same rfl (.same rfl .nil)))) ?_
  refine Fin.next ?_
  refine Tr.cond rfl (fun hb0 => ?_) (fun hb0 => ?_)
  · try simp only [decide_eq_true_eq, decide_eq_false_iff_not, beq_iff_eq, beq_eq_false_iff_ne, bne_iff_ne, bne_eq_false_iff_eq, Bool.and_eq_true, Bool.and_eq_false_iff, Bool.or_eq_true, Bool.or_eq_false_iff, Bool.not_eq_true', Bool.not_eq_false', gt_iff_lt, ge_iff_le, Int.not_lt, Int.not_le, ne_eq, Int.natCast_nonneg, true_and, and_true, Decidable.not_not, not_true_eq_false, not_false_eq_true] at hb0
    refine Tr.region ?_
    refine TrL.stepS 14 (.plain rfl (.move rfl (.of rfl))) rfl rfl ?_
    refine TrL.stepS 15 (.plain rfl (.slice (K := (intR .u8)) (xs := [_]) rfl (.cons (.map (.of rfl) (intR_elem _)) .nil) Try.underlying46 T.sz5 T.zb5 rfl (by decide))) rfl rfl ?_
    refine TrL.stepS 16 (.plain rfl (.bytesToStr rfl (.of rfl) Try.underlying46 Try.underlying5 Try.underlying9)) rfl rfl ?_
    refine TrL.stepS 17 (.plain rfl (.slice (K := strR) (xs := [_, _]) rfl (.cons (.map (.of rfl) (strR_elem _)) (.cons (.map (.of rfl) (strR_elem _)) .nil)) Try.underlying77 T.sz9 T.zb9 rfl (by decide))) rfl rfl ?_
    refine TrL.stepS 18 (.plain rfl (.move rfl (.of rfl))) rfl rfl ?_
    first | refine TrL.stepS 19 (.plain rfl (.convI L.bd_i64 rfl (.of rfl) T.us5 Try.underlying3 (by omega) (by omega))) rfl rfl ?_ | refine TrL.stepS 19 (.plain rfl (.conv rfl (.of rfl) T.us5 Try.underlying3)) rfl rfl ?_
    refine TrL.stepS 20 (.plain rfl (.build rfl (.cons (.of rfl) (.cons (.of rfl) .nil)) (T.Y2bd75_0_1 _ _))) rfl rfl ?_
    refine TrL.stepS 21 (.plain rfl (.slice (K := handR) (xs := [_]) rfl (.cons (.map (.of rfl) (handR_elem _ _)) .nil) Try.underlying78 T.sz75 T.zb75 rfl (by decide))) rfl rfl ?_
    refine TrL.stepS 22 (.plain rfl (.fieldP rfl (.of rfl) T.fl81_1)) rfl rfl ?_
    refine TrL.storeR1 21 rfl rfl rfl (.of rfl) (.of rfl) rfl rfl (L.h1lst) T.sz77 rfl ?_
    refine TrL.stepS 23 (.plain rfl (.fieldP rfl (.of rfl) T.fl81_2)) rfl rfl ?_
    refine TrL.storeR1 21 rfl rfl rfl (.of rfl) (.of rfl) rfl rfl (L.h1lst) T.sz78 rfl ?_
    refine TrL.nil ?_
    refine Fin.keepG (Γ' := [(2, _), (3, _)]) (.same rfl (.same rfl .nil)) ?_
    refine Fin.next ?_
    refine Tr.seq ?_
    refine Tr.region ?_
    refine TrL.stepS 24 (.plain rfl (.loadRN 21 (k := 4) rfl (.of rfl) rfl rfl rfl T.ag81 rfl)) rfl rfl ?_
    refine TrL.storeRW 20 rfl rfl rfl (.of rfl) (.of rfl) rfl rfl ((L.all1_cons (L.h1is rfl rfl) (L.all1_cons (L.h1lst) (L.all1_cons (L.h1lst) (L.all1_cons (L.h1is rfl rfl) L.all1_nil))))) T.sz81 rfl ?_
    refine TrL.nil ?_
    refine Fin.keepG (Γ' := [(2, _)]) (.same rfl .nil) ?_
    refine Fin.next ?_
    refine Tr.ret ?_
    exact Fin.retGI 2 rfl (_) [30] (rs := [_]) rfl (.cons (.cellR 20 (k := 4) rfl rfl rfl rfl T.ag81 rfl) .nil) (.cons ((fun v w h => by simp only [nodeOf, if_pos hb0]; exact h)) .nil) rfl ((.same rfl .nil)) rfl
  · try simp only [decide_eq_true_eq, decide_eq_false_iff_not, beq_iff_eq, beq_eq_false_iff_ne, bne_iff_ne, bne_eq_false_iff_eq, Bool.and_eq_true, Bool.and_eq_false_iff, Bool.or_eq_true, Bool.or_eq_false_iff, Bool.not_eq_true', Bool.not_eq_false', gt_iff_lt, ge_iff_le, Int.not_lt, Int.not_le, ne_eq, Int.natCast_nonneg, true_and, and_true, Decidable.not_not, not_true_eq_false, not_false_eq_true] at hb0
    refine Tr.skip ?_
    refine Fin.next ?_
    refine Tr.seq ?_
    refine Tr.region ?_
    refine TrL.stepS 24 (.plain rfl (.loadRN 21 (k := 4) rfl (.of rfl) rfl rfl rfl T.ag81 rfl)) rfl rfl ?_
    refine TrL.storeRW 20 rfl rfl rfl (.of rfl) (.of rfl) rfl rfl ((L.all1_cons (L.h1is rfl rfl) (L.all1_cons (L.h1lst) (L.all1_cons (L.h1lst) (L.all1_cons (L.h1is rfl rfl) L.all1_nil))))) T.sz81 rfl ?_
    refine TrL.nil ?_
    refine Fin.keepG (Γ' := [(2, _)]) (.same rfl .nil) ?_
    refine Fin.next ?_
    refine Tr.ret ?_
    exact Fin.retGI 2 rfl (_) [30] (rs := [_]) rfl (.cons (.cellR 20 (k := 4) rfl rfl rfl rfl T.ag81 rfl) .nil) (.cons ((fun v w h => by simp only [nodeOf, if_neg (Int.not_lt.2 hb0)]; exact h)) .nil) rfl ((.same rfl .nil)) rfl

end Go.Proofs.Ytemkogoclljhpaa