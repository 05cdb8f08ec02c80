import Derived.Test.YtemkogoclljhpaaH1
namespace Go.Proofs.Ytemkogoclljhpaa
open Go Go.Proofs.Ytemkogoclljhpaa.L
set_option linter.unusedVariables false
set_option linter.unusedSimpArgs false

namespace T
theorem H2bd97  : Try.prog.built 97 [] = some #[.int .u64 0, .int .i64 0, .int .u64 0, .int .u64 0, .bool false] := by kernel_rfl
theorem H2bd97_0_1_2_3_4 (c0 : Int) (c1 : Int) (c2 : Int) (c3 : Int) (c4 : Bool) : Try.prog.built 97 [(0, .int .u64 c0), (1, .int .i64 c1), (2, .int .u64 c2), (3, .int .u64 c3), (4, .bool c4)] = some #[.int .u64 c0, .int .i64 c1, .int .u64 c2, .int .u64 c3, .bool c4] := by kernel_rfl
theorem H2bd197_1 (c1 : Int) : Try.prog.built 197 [(1, .int .i64 c1)] = some #[.slice none 0 0, .int .i64 c1, .int .u64 0] := by kernel_rfl
end T


def grantV (rows : List Ls) (most : Int) (x : Ls) : Ls := if most ≤ rows.length then zL else x
def moveE (p : Ls → Bool) (rows : List Ls) (ep : Int) : Int := if ix p rows < rows.length then (if ep < (rows.getD (ix p rows) zL).2.2.1 then 2 else 0) else 260
def moveR (p : Ls → Bool) (rows : List Ls) (ep : Int) : List Ls := if moveE p rows ep = 0 then rows.set (ix p rows) (setE (rows.getD (ix p rows) zL) ep) else rows
def moveV (p : Ls → Bool) (rows : List Ls) (ep : Int) : Ls := if moveE p rows ep = 0 then setE (rows.getD (ix p rows) zL) ep else zL
def renewV (p : Ls → Bool) (rows : List Ls) (u : Int) : Ls := if ix p rows < rows.length then setU (rows.getD (ix p rows) zL) u else zL
def renewR (p : Ls → Bool) (rows : List Ls) (u : Int) : List Ls := rows.set (ix p rows) (setU (rows.getD (ix p rows) zL) u)
def errF (p : Ls → Bool) (rows : List Ls) (cur : Bool) : Int := if ix p rows < rows.length then 0 else if cur = true then 260 else 220
theorem errF_zero {p : Ls → Bool} {rows : List Ls} {cur : Bool} : errF p rows cur = 0 ↔ ix p rows < rows.length := by unfold errF; split; simp_all; split <;> simp_all
theorem getD_len {rows : List Ls} {k : Nat} (h : rows.length ≤ k) : rows.getD k zL = zL := by rw [List.getD_eq_getElem?_getD, List.getElem?_eq_none h]; rfl

/- tidepool/lease.New -/
set_option maxRecDepth 100000 in
theorem F54 (most : Int) : FnG Try.prog 54 [is (.int .i64 most)] [] [] (γ := Nat) (fun b => is (.pointer (some ⟨b, 0, none⟩))) (fun b => [BlkR b [is (.slice none 0 0), is (.int .i64 (max 0 most)), is (.int .u64 0)] 197, Own leaseR 97 (.slice none 0 0) []]) := by
  refine FnG.mk' Try.func54 T.nm54 rfl (N := 7) rfl rfl (t := 2) rfl fun B => ?_
  refine Tr.seq ?_
  refine Tr.region ?_
  refine TrL.stepS 2 (.plain rfl (.assign rfl (.of rfl))) rfl rfl ?_
  refine TrL.nil ?_
  refine Fin.keepG (Γ' := [(0, _)]) (.same rfl .nil) ?_
  refine Fin.next ?_
  refine Tr.seq ?_
  refine Tr.region ?_
  refine TrL.stepS 3 (.plain rfl (.move rfl (.of rfl))) rfl rfl ?_
  refine TrL.stepS 4 (.plain rfl (.max2 rfl (.of rfl) (.of rfl))) rfl rfl ?_
  refine TrL.stepS 5 (.plain rfl (.build rfl (.cons (.of rfl) .nil) (T.H2bd197_1 _))) rfl rfl ?_
  refine TrL.boxW 20 (cs := [_, _, _]) rfl rfl (.of rfl) 6 rfl rfl rfl fun b20 => ?_
  refine TrL.stepS 2 (.plain rfl (.assign rfl (.of rfl))) rfl rfl ?_
  refine TrL.nil ?_
  refine Fin.keepG (Γ' := [(2, _)]) (.same rfl .nil) ?_
  refine Fin.next ?_
  refine Tr.ret ?_
  refine Fin.own0 30 leaseR 97 rfl ?_
  exact Fin.retGI 2 rfl (b20) [20, 30] (rs := [_]) rfl (.cons (.tmp rfl) .nil) (.cons (L.iv rfl) .nil) rfl (.cons rfl L.Blk.toR (.same rfl .nil)) rfl

/- (*tidepool/lease.Leases).Grant -/
set_option maxRecDepth 100000 in
theorem F55 (b : Nat) (v : Value) (most last : Int) (rows : List Ls) (hl : rows.length ≤ 1000) (owner epoch until_ : Int) (cur : Bool) (hlast : 0 ≤ last ∧ last ≤ 100000) : FnG Try.prog 55 [is (.pointer (some ⟨b, 0, none⟩)), is (.int .i64 owner), is (.int .u64 epoch), is (.int .u64 until_), is (.bool cur)] [] [BlkR b [is v, is (.int .i64 most), is (.int .u64 last)] 197, Own leaseR 97 v rows] (γ := Value) (fun v' => Tup [is (.agg #[.int .u64 (grantV rows most (last + 1, owner, epoch, until_, cur)).1, .int .i64 (grantV rows most (last + 1, owner, epoch, until_, cur)).2.1, .int .u64 (grantV rows most (last + 1, owner, epoch, until_, cur)).2.2.1, .int .u64 (grantV rows most (last + 1, owner, epoch, until_, cur)).2.2.2.1, .bool (grantV rows most (last + 1, owner, epoch, until_, cur)).2.2.2.2]), is (.int .i64 (if most ≤ rows.length then 280 else 0))]) (fun v' => [BlkR b [is v', is (.int .i64 most), is (.int .u64 (if most ≤ rows.length then last else last + 1))] 197, Own leaseR 97 v' (grantR rows most (last + 1, owner, epoch, until_, cur))]) := by
  refine FnG.mk' Try.func55 T.nm55 rfl (N := 56) rfl rfl (t := 2) rfl fun B => ?_
  refine Tr.seq ?_
  refine Tr.region ?_
  refine TrL.allocS 20 (zs := [.int .u64 0, .int .i64 0, .int .u64 0, .int .u64 0, .bool false]) rfl rfl (by kernel_rfl) 10 rfl rfl rfl fun b20 => ?_
  refine TrL.stepS 11 (.plain rfl (.assign rfl (.of rfl))) rfl rfl ?_
  refine TrL.nil ?_
  refine Fin.keepG (Γ' := [(0, _), (1, _), (2, _), (3, _), (4, _), (10, _)]) (.same rfl (.same rfl (.same rfl (.same rfl (.same rfl (.same rfl .nil)))))) ?_
  refine Fin.next ?_
  refine Tr.seq ?_
  refine Tr.block ?_
  refine Tr.seq ?_
  refine Tr.region ?_
  refine TrL.stepS 14 (.plain rfl (.move rfl (.of rfl))) rfl rfl ?_
  refine TrL.stepS 15 (.plain rfl (.eqlPN rfl (.of rfl) (.of rfl) Try.underlying94)) rfl rfl ?_
  refine TrL.stepS 13 (.plain rfl (.assign rfl (.of rfl))) rfl rfl ?_
  refine TrL.nil ?_
  refine Fin.keepG (Γ' := [(0, _), (1, _), (2, _), (3, _), (4, _), (10, _), (13, _)]) (.same rfl (.same rfl (.same rfl (.same rfl (.same rfl (.same rfl (.same rfl .nil))))))) ?_
  refine Fin.next ?_
  refine Tr.cond rfl (fun hb0 => ?_) (fun hb0 => ?_)
  · try simp only [decide_eq_true_eq, decide_eq_false_iff_not, beq_iff_eq, beq_eq_false_iff_ne, bne_iff_ne, bne_eq_false_iff_eq, Bool.and_eq_true, Bool.and_eq_false_iff, Bool.or_eq_true, Bool.or_eq_false_iff, Bool.not_eq_true', Bool.not_eq_false', gt_iff_lt, ge_iff_le, Int.not_lt, Int.not_le, ne_eq, Int.natCast_nonneg, true_and, and_true, Decidable.not_not, not_true_eq_false, not_false_eq_true] at hb0
    cases hb0
  · try simp only [decide_eq_true_eq, decide_eq_false_iff_not, beq_iff_eq, beq_eq_false_iff_ne, bne_iff_ne, bne_eq_false_iff_eq, Bool.and_eq_true, Bool.and_eq_false_iff, Bool.or_eq_true, Bool.or_eq_false_iff, Bool.not_eq_true', Bool.not_eq_false', gt_iff_lt, ge_iff_le, Int.not_lt, Int.not_le, ne_eq, Int.natCast_nonneg, true_and, and_true, Decidable.not_not, not_true_eq_false, not_false_eq_true] at hb0
    refine Tr.seq ?_
    refine Tr.regionK T.mixed (by kernel_rfl) (by kernel_rfl) ?_
    refine ChainK.consS 18 (.plain rfl (.move rfl (.of rfl))) rfl ?_
    refine ChainK.consS 19 (.plain rfl (.nilCheckP rfl (.of rfl))) rfl ?_
    refine ChainK.consS 20 (.plain rfl (.fieldP rfl (.of rfl) T.fl197_0)) rfl ?_
    refine ChainK.consS 21 (.plain rfl (.loadR 2 rfl (.of rfl) rfl rfl rfl T.sc103)) rfl ?_
    refine ChainK.consS 22 (.plain rfl (.lenV 3 rfl (.of rfl) rfl Own.view rfl Try.underlying103)) rfl ?_
    refine ChainK.consS 23 (.plain rfl (.move rfl (.of rfl))) rfl ?_
    refine ChainK.consS 24 (.plain rfl (.nilCheckP rfl (.of rfl))) rfl ?_
    refine ChainK.consS 25 (.plain rfl (.fieldP rfl (.of rfl) T.fl197_1)) rfl ?_
    refine ChainK.consS 26 (.plain rfl (.loadR 2 rfl (.of rfl) rfl rfl rfl T.sc3)) rfl ?_
    refine ChainK.consS 27 (.plain rfl (.geq rfl (.of rfl) (.of rfl))) rfl ?_
    refine ChainK.consS 17 (.plain rfl (.assign rfl (.of rfl))) rfl ?_
    refine ChainK.nil ?_
    refine Fin.keepG (Γ' := [(0, _), (1, _), (2, _), (3, _), (4, _), (10, _), (17, _)]) (.same rfl (.same rfl (.same rfl (.same rfl (.same rfl (.same rfl (.same rfl .nil))))))) ?_
    refine Fin.next ?_
    refine Tr.cond rfl (fun hb1 => ?_) (fun hb1 => ?_)
    · try simp only [decide_eq_true_eq, decide_eq_false_iff_not, beq_iff_eq, beq_eq_false_iff_ne, bne_iff_ne, bne_eq_false_iff_eq, Bool.and_eq_true, Bool.and_eq_false_iff, Bool.or_eq_true, Bool.or_eq_false_iff, Bool.not_eq_true', Bool.not_eq_false', gt_iff_lt, ge_iff_le, Int.not_lt, Int.not_le, ne_eq, Int.natCast_nonneg, true_and, and_true, Decidable.not_not, not_true_eq_false, not_false_eq_true] at hb1
      refine Tr.seq ?_
      refine Tr.region ?_
      refine TrL.stepS 28 (.plain rfl (.build rfl .nil (T.H2bd97))) rfl rfl ?_
      refine TrL.storeW 20 (vs := [_, _, _, _, _]) rfl rfl rfl (.of rfl) (.of rfl) rfl rfl T.sz97 rfl rfl ?_
      refine TrL.stepS 11 (.plain rfl (.assign rfl (.of rfl))) rfl rfl ?_
      refine TrL.nil ?_
      refine Fin.keepG (Γ' := [(10, _), (11, _)]) (.same rfl (.same rfl .nil)) ?_
      refine Fin.next ?_
      refine Tr.ret ?_
      refine Fin.blockRet ?_
      refine Fin.thenRet ?_
      refine Fin.retGI 2 rfl (v) [2, 3] (rs := [_, _]) rfl (.cons (.cellB 20 (k := 5) (ds := [_, _, _, _, _]) rfl rfl rfl rfl T.ag97 rfl) (.cons (.tmp rfl) .nil)) (.cons (L.iv ?_) (.cons (L.iv ?_) .nil)) rfl (.cons rfl (fun F L w h => by rw [if_pos (by omega)]; exact h) (.cons rfl (fun F L w h => by unfold grantR; rw [if_pos (by omega)]; exact h) .nil)) rfl
      · unfold grantV; rw [if_pos (by omega)]; rfl
      · rw [if_pos (by omega)]
    · try simp only [decide_eq_true_eq, decide_eq_false_iff_not, beq_iff_eq, beq_eq_false_iff_ne, bne_iff_ne, bne_eq_false_iff_eq, Bool.and_eq_true, Bool.and_eq_false_iff, Bool.or_eq_true, Bool.or_eq_false_iff, Bool.not_eq_true', Bool.not_eq_false', gt_iff_lt, ge_iff_le, Int.not_lt, Int.not_le, ne_eq, Int.natCast_nonneg, true_and, and_true, Decidable.not_not, not_true_eq_false, not_false_eq_true] at hb1
      refine Tr.skip ?_
      refine Fin.blockNormal ?_
      refine Fin.next ?_
      refine Tr.seq ?_
      refine Tr.region ?_
      refine TrL.stepS 29 (.plain rfl (.move rfl (.of rfl))) rfl rfl ?_
      refine TrL.stepS 30 (.plain rfl (.nilCheckP rfl (.of rfl))) rfl rfl ?_
      refine TrL.stepS 31 (.plain rfl (.fieldP rfl (.of rfl) T.fl197_2)) rfl rfl ?_
      refine TrL.stepS 32 (.plain rfl (.loadR 2 rfl (.of rfl) rfl rfl rfl T.sc55)) rfl rfl ?_
      refine TrL.stepS 33 (.plain rfl (.addI L.bd_u64 rfl (.of rfl) (.of rfl) (by omega) (by omega))) rfl rfl ?_
      refine TrL.stepS 34 (.plain rfl (.nilCheckP rfl (.of rfl))) rfl rfl ?_
      refine TrL.stepS 35 (.plain rfl (.fieldP rfl (.of rfl) T.fl197_2)) rfl rfl ?_
      refine TrL.storeR1 2 rfl rfl rfl (.of rfl) (.of rfl) rfl rfl (L.h1is rfl rfl) T.sz55 rfl ?_
      refine TrL.nil ?_
      refine Fin.keepG (Γ' := [(0, _), (1, _), (2, _), (3, _), (4, _), (10, _)]) (.same rfl (.same rfl (.same rfl (.same rfl (.same rfl (.same rfl .nil)))))) ?_
      refine Fin.next ?_
      refine Tr.seq ?_
      refine Tr.region ?_
      refine TrL.stepS 36 (.plain rfl (.move rfl (.of rfl))) rfl rfl ?_
      refine TrL.stepS 37 (.plain rfl (.nilCheckP rfl (.of rfl))) rfl rfl ?_
      refine TrL.stepS 38 (.plain rfl (.fieldP rfl (.of rfl) T.fl197_2)) rfl rfl ?_
      refine TrL.stepS 39 (.plain rfl (.loadR 2 rfl (.of rfl) rfl rfl rfl T.sc55)) rfl rfl ?_
      refine TrL.stepS 40 (.plain rfl (.move rfl (.of rfl))) rfl rfl ?_
      refine TrL.stepS 41 (.plain rfl (.move rfl (.of rfl))) rfl rfl ?_
      refine TrL.stepS 42 (.plain rfl (.move rfl (.of rfl))) rfl rfl ?_
      refine TrL.stepS 43 (.plain rfl (.move rfl (.of rfl))) rfl rfl ?_
      refine TrL.stepS 44 (.plain rfl (.build rfl (.cons (.of rfl) (.cons (.of rfl) (.cons (.of rfl) (.cons (.of rfl) (.cons (.of rfl) .nil))))) (T.H2bd97_0_1_2_3_4 _ _ _ _ _))) rfl rfl ?_
      refine TrL.allocS 21 (zs := [.int .u64 0, .int .i64 0, .int .u64 0, .int .u64 0, .bool false]) rfl rfl (by kernel_rfl) 12 rfl rfl rfl fun b21 => ?_
      refine TrL.storeW 21 (vs := [_, _, _, _, _]) rfl rfl rfl (.of rfl) (.of rfl) rfl rfl T.sz97 rfl rfl ?_
      refine TrL.nil ?_
      refine Fin.keepG (Γ' := [(0, _), (10, _), (12, _)]) (.same rfl (.same rfl (.same rfl .nil))) ?_
      refine Fin.next ?_
      refine Tr.seq ?_
      refine Tr.regionW [([], [], []), ([], [], []), ([2], [], []), ([2], [], []), ([2], [], []), ([21], [], []), ([], [], []), ([3], [3], [52]), ([2], [], []), ([2], [], []), ([2, 3], [2], [52])] T.mixed (by kernel_rfl) (by kernel_rfl) (by kernel_rfl) (by kernel_rfl) ?_
      refine AChain.rd 45 rfl (fun σ => .plain rfl (.move rfl (.of rfl))) rfl rfl (fun _ _ => rfl) (L.Dep.const) ?_
      refine AChain.rd 46 rfl (fun σ => .plain rfl (.move rfl (.of rfl))) rfl rfl (fun _ _ => rfl) (L.Dep.const) ?_
      refine AChain.rd 47 rfl (fun σ => .plain rfl (.nilCheckP rfl (.of rfl))) rfl rfl (fun _ _ => rfl) (L.Dep.const) ?_
      refine AChain.rd 48 rfl (fun σ => .plain rfl (.fieldP rfl (.of rfl) T.fl197_0)) rfl rfl (fun _ _ => rfl) (L.Dep.const) ?_
      refine AChain.rd 49 rfl (fun σ => .plain rfl (.loadR 2 rfl (.of rfl) rfl rfl rfl T.sc103)) rfl rfl (fun _ _ => rfl) (L.Dep.const) ?_
      refine AChain.rd 50 rfl (fun σ => .plain rfl (.loadBN 21 (k := 5) (ds := [_, _, _, _, _]) rfl (.of rfl) rfl rfl rfl T.ag97 rfl)) rfl rfl (fun _ _ => rfl) (L.Dep.const) ?_
      refine AChain.rd 51 rfl (fun σ => .plain rfl (.slice (K := leaseR) (xs := [_]) rfl (.cons (.map (.of rfl) (leaseR_elem _ _ _ _ _)) .nil) Try.underlying103 T.sz97 T.zb97 rfl (by decide))) rfl rfl (fun _ _ => rfl) (L.Dep.const) ?_
      refine AChain.appendD 3 52 (bytes := 40) rfl rfl rfl rfl rfl rfl (fun σ => (.of rfl)) (fun σ => rfl) (fun σ => (.of rfl)) Try.underlying103 T.sz97 T.el97 (by simp; omega) (by simp only [maxLen, List.length_append, List.length_cons, List.length_nil, List.length_map, List.length_take]; omega) (L.depS (by decide)) (L.depO (by decide)) ?_
      refine AChain.rd 53 rfl (fun σ => .plain rfl (.nilCheckP rfl (.of rfl))) rfl rfl (fun _ _ => rfl) (L.Dep.const) ?_
      refine AChain.rd 54 rfl (fun σ => .plain rfl (.fieldP rfl (.of rfl) T.fl197_0)) rfl rfl (fun _ _ => rfl) (L.Dep.const) ?_
      refine AChain.storeBO 2 3 rfl rfl rfl rfl rfl rfl (fun σ => (.of rfl)) (fun σ => (.of rfl)) (fun σ => rfl) (fun σ => rfl) T.sz103 rfl (L.depB fun σ σ' h => by simp only [h 52 (by decide)]) ?_
      refine AChain.nil ?_
      intro s7
      refine Fin.keepG (Γ' := [(10, _), (12, _)]) (.same rfl (.same rfl .nil)) ?_
      refine Fin.next ?_
      refine Tr.seq ?_
      refine Tr.region ?_
      refine TrL.stepS 55 (.plain rfl (.loadBN 21 (k := 5) (ds := [_, _, _, _, _]) rfl (.of rfl) rfl rfl rfl T.ag97 rfl)) rfl rfl ?_
      refine TrL.storeW 20 (vs := [_, _, _, _, _]) rfl rfl rfl (.of rfl) (.of rfl) rfl rfl T.sz97 rfl rfl ?_
      refine TrL.stepS 11 (.plain rfl (.assign rfl (.of rfl))) rfl rfl ?_
      refine TrL.nil ?_
      refine Fin.keepG (Γ' := [(10, _), (11, _)]) (.same rfl (.same rfl .nil)) ?_
      refine Fin.next ?_
      refine Tr.ret ?_
      refine Fin.retGI 2 rfl (s7 52) [2, 3] (rs := [_, _]) rfl (.cons (.cellB 20 (k := 5) (ds := [_, _, _, _, _]) rfl rfl rfl rfl T.ag97 rfl) (.cons (.tmp rfl) .nil)) (.cons (L.iv ?_) (.cons (L.iv ?_) .nil)) rfl (.cons rfl (fun F L w h => by rw [if_neg (by omega)]; exact h) (.cons rfl (fun F L w h => by unfold grantR; rw [if_neg (by omega)]; exact h) .nil)) rfl
      · unfold grantV; rw [if_neg (by omega)]
      · rw [if_neg (by omega)]

/- (*tidepool/lease.Leases).Get -/
set_option maxRecDepth 100000 in
theorem F57 (b : Nat) (v : Value) (most last : Int) (rows : List Ls) (hl : rows.length ≤ 1000) (owner id : Int) (cur : Bool) : FnG Try.prog 57 [is (.pointer (some ⟨b, 0, none⟩)), is (.int .i64 owner), is (.int .u64 id), is (.bool cur)] [BlkR b [is v, is (.int .i64 most), is (.int .u64 last)] 197, Own leaseR 97 v rows] [] (γ := Unit) (fun _ => Tup [is (.agg #[.int .u64 (rows.getD (ix (hasP id owner cur) rows) zL).1, .int .i64 (rows.getD (ix (hasP id owner cur) rows) zL).2.1, .int .u64 (rows.getD (ix (hasP id owner cur) rows) zL).2.2.1, .int .u64 (rows.getD (ix (hasP id owner cur) rows) zL).2.2.2.1, .bool (rows.getD (ix (hasP id owner cur) rows) zL).2.2.2.2]), is (.int .i64 (errF (hasP id owner cur) rows cur))]) (fun _ => []) := by
  refine FnG.mk' Try.func57 T.nm57 rfl (N := 31) rfl rfl (t := 4) rfl fun B => ?_
  refine Tr.seq ?_
  refine Tr.region ?_
  refine TrL.allocS 20 (zs := [.int .u64 0, .int .i64 0, .int .u64 0, .int .u64 0, .bool false]) rfl rfl (by kernel_rfl) 8 rfl rfl rfl fun b20 => ?_
  refine TrL.stepS 9 (.plain rfl (.assign rfl (.of rfl))) rfl rfl ?_
  refine TrL.nil ?_
  refine Fin.keepG (Γ' := [(0, _), (1, _), (2, _), (3, _), (8, _)]) (.same rfl (.same rfl (.same rfl (.same rfl (.same rfl .nil))))) ?_
  refine Fin.next ?_
  refine Tr.seq ?_
  refine Tr.region ?_
  refine TrL.stepS 13 (.plain rfl (.move rfl (.of rfl))) rfl rfl ?_
  refine TrL.stepS 14 (.plain rfl (.move rfl (.of rfl))) rfl rfl ?_
  refine TrL.stepS 15 (.plain rfl (.move rfl (.of rfl))) rfl rfl ?_
  refine TrL.stepS 16 (.plain rfl (.move rfl (.of rfl))) rfl rfl ?_
  refine TrL.stepS 17 (.plain rfl (.callR [2, 3] rfl (F128 b v most last rows hl owner id cur) (.cons (.of rfl) (.cons (.of rfl) (.cons (.of rfl) (.cons (.of rfl) .nil)))) (.same rfl (.same rfl .nil)) rfl)) rfl rfl ?_
  refine TrL.stepS 12 (.plain rfl (.move rfl (.of rfl))) rfl rfl ?_
  refine TrL.stepS 18 (.plain rfl (.extract rfl (.of rfl) rfl)) rfl rfl ?_
  refine TrL.stepS 19 (.plain rfl (.extract rfl (.of rfl) rfl)) rfl rfl ?_
  refine TrL.stepS 10 (.plain rfl (.assign rfl (.of rfl))) rfl rfl ?_
  refine TrL.stepS 11 (.plain rfl (.assign rfl (.of rfl))) rfl rfl ?_
  refine TrL.nil ?_
  refine Fin.keepG (Γ' := [(0, _), (8, _), (10, _), (11, _)]) (.same rfl (.same rfl (.same rfl (.same rfl .nil)))) ?_
  refine Fin.next ?_
  refine Tr.seq ?_
  refine Tr.seq ?_
  refine Tr.region ?_
  refine TrL.stepS 20 (.plain rfl (.move rfl (.of rfl))) rfl rfl ?_
  refine TrL.stepS 21 (.plain rfl (.neq rfl (.of rfl) (.of rfl))) rfl rfl ?_
  refine TrL.nil ?_
  refine Fin.keepG (Γ' := [(0, _), (8, _), (10, _), (11, _), (21, _)]) (.same rfl (.same rfl (.same rfl (.same rfl (.same rfl .nil))))) ?_
  refine Fin.next ?_
  refine Tr.cond rfl (fun hb0 => ?_) (fun hb0 => ?_)
  · try simp only [decide_eq_true_eq, decide_eq_false_iff_not, beq_iff_eq, beq_eq_false_iff_ne, bne_iff_ne, bne_eq_false_iff_eq, Bool.and_eq_true, Bool.and_eq_false_iff, Bool.or_eq_true, Bool.or_eq_false_iff, Bool.not_eq_true', Bool.not_eq_false', gt_iff_lt, ge_iff_le, Int.not_lt, Int.not_le, ne_eq, Int.natCast_nonneg, true_and, and_true, Decidable.not_not, not_true_eq_false, not_false_eq_true] at hb0
    have hlt : ¬ ix (hasP id owner cur) rows < rows.length := by
      intro h
      rw [if_pos h] at hb0; omega
    have hE : errF (hasP id owner cur) rows cur = if cur = true then 260 else 220 := by unfold errF; rw [if_neg hlt]
    refine Tr.seq ?_
    refine Tr.region ?_
    refine TrL.stepS 22 (.plain rfl (.build rfl .nil (T.H2bd97))) rfl rfl ?_
    refine TrL.stepS 23 (.plain rfl (.move rfl (.of rfl))) rfl rfl ?_
    refine TrL.storeW 20 (vs := [_, _, _, _, _]) rfl rfl rfl (.of rfl) (.of rfl) rfl rfl T.sz97 rfl rfl ?_
    refine TrL.stepS 9 (.plain rfl (.assign rfl (.of rfl))) rfl rfl ?_
    refine TrL.nil ?_
    refine Fin.keepG (Γ' := [(8, _), (9, _)]) (.same rfl (.same rfl .nil)) ?_
    refine Fin.next ?_
    refine Tr.ret ?_
    refine Fin.thenRet ?_
    refine Fin.retGI 4 rfl (()) [] (rs := [_, _]) rfl (.cons (.cellB 20 (k := 5) (ds := [_, _, _, _, _]) rfl rfl rfl rfl T.ag97 rfl) (.cons (.tmp rfl) .nil)) (.cons (L.iv ?_) (.cons (L.iv ?_) .nil)) rfl (.nil) rfl
    · rw [getD_len (by omega)]; rfl
    · rw [hE, if_neg hlt]
  · try simp only [decide_eq_true_eq, decide_eq_false_iff_not, beq_iff_eq, beq_eq_false_iff_ne, bne_iff_ne, bne_eq_false_iff_eq, Bool.and_eq_true, Bool.and_eq_false_iff, Bool.or_eq_true, Bool.or_eq_false_iff, Bool.not_eq_true', Bool.not_eq_false', gt_iff_lt, ge_iff_le, Int.not_lt, Int.not_le, ne_eq, Int.natCast_nonneg, true_and, and_true, Decidable.not_not, not_true_eq_false, not_false_eq_true] at hb0
    have hlt : ix (hasP id owner cur) rows < rows.length := by
      by_cases h : ix (hasP id owner cur) rows < rows.length
      · exact h
      · rw [if_neg h] at hb0; split at hb0 <;> omega
    have hE : errF (hasP id owner cur) rows cur = 0 := errF_zero.2 hlt
    obtain ⟨x, hx, hpx⟩ := ix_get hlt
    have hg := getD_of (d := zL) hx
    refine Tr.skip ?_
    refine Fin.next ?_
    refine Tr.seq ?_
    refine Tr.region ?_
    refine TrL.stepS 24 (.plain rfl (.move rfl (.of rfl))) rfl rfl ?_
    refine TrL.stepS 25 (.plain rfl (.nilCheckP rfl (.of rfl))) rfl rfl ?_
    refine TrL.stepS 26 (.plain rfl (.fieldP rfl (.of rfl) T.fl197_0)) rfl rfl ?_
    refine TrL.stepS 27 (.plain rfl (.loadR 2 rfl (.of rfl) rfl rfl rfl T.sc103)) rfl rfl ?_
    refine TrL.stepS 28 (.plain rfl (.move rfl (.of rfl))) rfl rfl ?_
    refine TrL.stepS 29 (.plain rfl (.indexN 3 (ix (hasP id owner cur) rows) rfl (.of rfl) (.of rfl) rfl Own.view rfl Try.underlying103 T.sz97 (by rw [if_pos hlt]) (hx))) rfl rfl ?_
    refine TrL.stepS 30 (.plain rfl (.loadWV 3 (ix (hasP id owner cur) rows) 0 5 (ds := [_, _, _, _, _]) rfl (.of rfl) rfl Own.view rfl (hx) rfl rfl T.ag97)) rfl rfl ?_
    refine TrL.storeW 20 (vs := [_, _, _, _, _]) rfl rfl rfl (.of rfl) (.of rfl) rfl rfl T.sz97 rfl rfl ?_
    refine TrL.stepS 9 (.plain rfl (.assign rfl (.of rfl))) rfl rfl ?_
    refine TrL.nil ?_
    refine Fin.keepG (Γ' := [(8, _), (9, _)]) (.same rfl (.same rfl .nil)) ?_
    refine Fin.next ?_
    refine Tr.ret ?_
    refine Fin.retGI 4 rfl (()) [] (rs := [_, _]) rfl (.cons (.cellB 20 (k := 5) (ds := [_, _, _, _, _]) rfl rfl rfl rfl T.ag97 rfl) (.cons (.tmp rfl) .nil)) (.cons (L.iv ?_) (.cons (L.iv ?_) .nil)) rfl (.nil) rfl
    · rw [hg]
    · rw [hE]

/- (*tidepool/lease.Leases).Renew -/
set_option maxRecDepth 100000 in
theorem F59 (b : Nat) (v : Value) (most last : Int) (rows : List Ls) (hl : rows.length ≤ 1000) (owner id until_ : Int) (cur : Bool) : FnG Try.prog 59 [is (.pointer (some ⟨b, 0, none⟩)), is (.int .i64 owner), is (.int .u64 id), is (.int .u64 until_), is (.bool cur)] [] [BlkR b [is v, is (.int .i64 most), is (.int .u64 last)] 197, Own leaseR 97 v rows] (γ := Unit) (fun _ => Tup [is (.agg #[.int .u64 (renewV (hasP id owner cur) rows until_).1, .int .i64 (renewV (hasP id owner cur) rows until_).2.1, .int .u64 (renewV (hasP id owner cur) rows until_).2.2.1, .int .u64 (renewV (hasP id owner cur) rows until_).2.2.2.1, .bool (renewV (hasP id owner cur) rows until_).2.2.2.2]), is (.int .i64 (errF (hasP id owner cur) rows cur))]) (fun _ => [BlkR b [is v, is (.int .i64 most), is (.int .u64 last)] 197, Own leaseR 97 v (renewR (hasP id owner cur) rows until_)]) := by
  refine FnG.mk' Try.func59 T.nm59 rfl (N := 50) rfl rfl (t := 2) rfl fun B => ?_
  refine Tr.seq ?_
  refine Tr.region ?_
  refine TrL.allocS 20 (zs := [.int .u64 0, .int .i64 0, .int .u64 0, .int .u64 0, .bool false]) rfl rfl (by kernel_rfl) 10 rfl rfl rfl fun b20 => ?_
  refine TrL.stepS 11 (.plain rfl (.assign rfl (.of rfl))) rfl rfl ?_
  refine TrL.nil ?_
  refine Fin.keepG (Γ' := [(0, _), (1, _), (2, _), (3, _), (4, _), (10, _)]) (.same rfl (.same rfl (.same rfl (.same rfl (.same rfl (.same rfl .nil)))))) ?_
  refine Fin.next ?_
  refine Tr.seq ?_
  refine Tr.region ?_
  refine TrL.stepS 15 (.plain rfl (.move rfl (.of rfl))) rfl rfl ?_
  refine TrL.stepS 16 (.plain rfl (.move rfl (.of rfl))) rfl rfl ?_
  refine TrL.stepS 17 (.plain rfl (.move rfl (.of rfl))) rfl rfl ?_
  refine TrL.stepS 18 (.plain rfl (.move rfl (.of rfl))) rfl rfl ?_
  refine TrL.stepS 19 (.plain rfl (.callR [2, 3] rfl (F128 b v most last rows hl owner id cur) (.cons (.of rfl) (.cons (.of rfl) (.cons (.of rfl) (.cons (.of rfl) .nil)))) (.same rfl (.same rfl .nil)) rfl)) rfl rfl ?_
  refine TrL.stepS 14 (.plain rfl (.move rfl (.of rfl))) rfl rfl ?_
  refine TrL.stepS 20 (.plain rfl (.extract rfl (.of rfl) rfl)) rfl rfl ?_
  refine TrL.stepS 21 (.plain rfl (.extract rfl (.of rfl) rfl)) rfl rfl ?_
  refine TrL.stepS 12 (.plain rfl (.assign rfl (.of rfl))) rfl rfl ?_
  refine TrL.stepS 13 (.plain rfl (.assign rfl (.of rfl))) rfl rfl ?_
  refine TrL.nil ?_
  refine Fin.keepG (Γ' := [(0, _), (3, _), (10, _), (12, _), (13, _)]) (.same rfl (.same rfl (.same rfl (.same rfl (.same rfl .nil))))) ?_
  refine Fin.next ?_
  refine Tr.seq ?_
  refine Tr.seq ?_
  refine Tr.region ?_
  refine TrL.stepS 22 (.plain rfl (.move rfl (.of rfl))) rfl rfl ?_
  refine TrL.stepS 23 (.plain rfl (.neq rfl (.of rfl) (.of rfl))) rfl rfl ?_
  refine TrL.nil ?_
  refine Fin.keepG (Γ' := [(0, _), (3, _), (10, _), (12, _), (13, _), (23, _)]) (.same rfl (.same rfl (.same rfl (.same rfl (.same rfl (.same rfl .nil)))))) ?_
  refine Fin.next ?_
  refine Tr.cond rfl (fun hb0 => ?_) (fun hb0 => ?_)
  · try simp only [decide_eq_true_eq, decide_eq_false_iff_not, beq_iff_eq, beq_eq_false_iff_ne, bne_iff_ne, bne_eq_false_iff_eq, Bool.and_eq_true, Bool.and_eq_false_iff, Bool.or_eq_true, Bool.or_eq_false_iff, Bool.not_eq_true', Bool.not_eq_false', gt_iff_lt, ge_iff_le, Int.not_lt, Int.not_le, ne_eq, Int.natCast_nonneg, true_and, and_true, Decidable.not_not, not_true_eq_false, not_false_eq_true] at hb0
    have hlt : ¬ ix (hasP id owner cur) rows < rows.length := by
      intro h
      rw [if_pos h] at hb0; omega
    have hE : errF (hasP id owner cur) rows cur = if cur = true then 260 else 220 := by unfold errF; rw [if_neg hlt]
    refine Tr.seq ?_
    refine Tr.region ?_
    refine TrL.stepS 24 (.plain rfl (.build rfl .nil (T.H2bd97))) rfl rfl ?_
    refine TrL.stepS 25 (.plain rfl (.move rfl (.of rfl))) rfl rfl ?_
    refine TrL.storeW 20 (vs := [_, _, _, _, _]) rfl rfl rfl (.of rfl) (.of rfl) rfl rfl T.sz97 rfl rfl ?_
    refine TrL.stepS 11 (.plain rfl (.assign rfl (.of rfl))) rfl rfl ?_
    refine TrL.nil ?_
    refine Fin.keepG (Γ' := [(10, _), (11, _)]) (.same rfl (.same rfl .nil)) ?_
    refine Fin.next ?_
    refine Tr.ret ?_
    refine Fin.thenRet ?_
    refine Fin.retGI 2 rfl (()) [2, 3] (rs := [_, _]) rfl (.cons (.cellB 20 (k := 5) (ds := [_, _, _, _, _]) rfl rfl rfl rfl T.ag97 rfl) (.cons (.tmp rfl) .nil)) (.cons (L.iv ?_) (.cons (L.iv ?_) .nil)) rfl (.same rfl (.cons rfl (fun F L w h => by unfold renewR; rw [List.set_eq_of_length_le (by omega)]; exact h) .nil)) rfl
    · unfold renewV; rw [if_neg hlt]; rfl
    · rw [hE, if_neg hlt]
  · try simp only [decide_eq_true_eq, decide_eq_false_iff_not, beq_iff_eq, beq_eq_false_iff_ne, bne_iff_ne, bne_eq_false_iff_eq, Bool.and_eq_true, Bool.and_eq_false_iff, Bool.or_eq_true, Bool.or_eq_false_iff, Bool.not_eq_true', Bool.not_eq_false', gt_iff_lt, ge_iff_le, Int.not_lt, Int.not_le, ne_eq, Int.natCast_nonneg, true_and, and_true, Decidable.not_not, not_true_eq_false, not_false_eq_true] at hb0
    have hlt : ix (hasP id owner cur) rows < rows.length := by
      by_cases h : ix (hasP id owner cur) rows < rows.length
      · exact h
      · rw [if_neg h] at hb0; split at hb0 <;> omega
    have hE : errF (hasP id owner cur) rows cur = 0 := errF_zero.2 hlt
    obtain ⟨x, hx, hpx⟩ := ix_get hlt
    have hg := getD_of (d := zL) hx
    refine Tr.skip ?_
    refine Fin.next ?_
    refine Tr.seq ?_
    refine Tr.regionW [([], [], []), ([2], [], []), ([2], [], []), ([2], [], []), ([], [], []), ([], [], []), ([2], [], []), ([2], [], []), ([2], [], []), ([], [], []), ([3], [], []), ([3], [], []), ([3], [], []), ([], [], []), ([], [], []), ([3], [], []), ([3], [], []), ([3], [3], [])] T.mixed (by kernel_rfl) (by kernel_rfl) (by kernel_rfl) (by kernel_rfl) ?_
    refine AChain.rd 26 rfl (fun σ => .plain rfl (.move rfl (.of rfl))) rfl rfl (fun _ _ => rfl) (L.Dep.const) ?_
    refine AChain.rd 27 rfl (fun σ => .plain rfl (.nilCheckP rfl (.of rfl))) rfl rfl (fun _ _ => rfl) (L.Dep.const) ?_
    refine AChain.rd 28 rfl (fun σ => .plain rfl (.fieldP rfl (.of rfl) T.fl197_0)) rfl rfl (fun _ _ => rfl) (L.Dep.const) ?_
    refine AChain.rd 29 rfl (fun σ => .plain rfl (.loadR 2 rfl (.of rfl) rfl rfl rfl T.sc103)) rfl rfl (fun _ _ => rfl) (L.Dep.const) ?_
    refine AChain.rd 30 rfl (fun σ => .plain rfl (.move rfl (.of rfl))) rfl rfl (fun _ _ => rfl) (L.Dep.const) ?_
    refine AChain.rd 31 rfl (fun σ => .plain rfl (.move rfl (.of rfl))) rfl rfl (fun _ _ => rfl) (L.Dep.const) ?_
    refine AChain.rd 32 rfl (fun σ => .plain rfl (.nilCheckP rfl (.of rfl))) rfl rfl (fun _ _ => rfl) (L.Dep.const) ?_
    refine AChain.rd 33 rfl (fun σ => .plain rfl (.fieldP rfl (.of rfl) T.fl197_0)) rfl rfl (fun _ _ => rfl) (L.Dep.const) ?_
    refine AChain.rd 34 rfl (fun σ => .plain rfl (.loadR 2 rfl (.of rfl) rfl rfl rfl T.sc103)) rfl rfl (fun _ _ => rfl) (L.Dep.const) ?_
    refine AChain.rd 35 rfl (fun σ => .plain rfl (.move rfl (.of rfl))) rfl rfl (fun _ _ => rfl) (L.Dep.const) ?_
    refine AChain.rd 36 rfl (fun σ => .plain rfl (.indexN 3 (ix (hasP id owner cur) rows) rfl (.of rfl) (.of rfl) rfl Own.view rfl Try.underlying103 T.sz97 (by rw [if_pos hlt]) (hx))) rfl rfl (fun _ _ => rfl) (L.Dep.const) ?_
    refine AChain.rd 37 rfl (fun σ => .plain rfl (.fieldW 3 rfl (.of rfl) rfl Own.view rfl (L.hz_pos (hx)) T.fl97_3)) rfl rfl (fun _ _ => rfl) (L.Dep.const) ?_
    refine AChain.rd 38 rfl (fun σ => .plain rfl (.loadW 3 (ix (hasP id owner cur) rows) 3 rfl (.of rfl) rfl Own.view rfl (hx) rfl T.sc55)) rfl rfl (fun _ _ => rfl) (L.Dep.const) ?_
    refine AChain.rd 39 rfl (fun σ => .plain rfl (.move rfl (.of rfl))) rfl rfl (fun _ _ => rfl) (L.Dep.const) ?_
    refine AChain.rd 40 rfl (fun σ => .plain rfl (.max2 rfl (.of rfl) (.of rfl))) rfl rfl (fun _ _ => rfl) (L.Dep.const) ?_
    refine AChain.rd 41 rfl (fun σ => .plain rfl (.indexN 3 (ix (hasP id owner cur) rows) rfl (.of rfl) (.of rfl) rfl Own.view rfl Try.underlying103 T.sz97 (by rw [if_pos hlt]) (hx))) rfl rfl (fun _ _ => rfl) (L.Dep.const) ?_
    refine AChain.rd 42 rfl (fun σ => .plain rfl (.fieldW 3 rfl (.of rfl) rfl Own.view rfl (L.hz_pos (hx)) T.fl97_3)) rfl rfl (fun _ _ => rfl) (L.Dep.const) ?_
    refine AChain.wr1 3 rfl rfl rfl rfl (fun w0 κ0 σ => TrL.storeO 3 (ix (hasP id owner cur) rows) 3 (z' := setU x until_) rfl rfl rfl (.of rfl) (.of rfl) (L.hR1 (L.h1is rfl rfl)) rfl rfl (hx) rfl rfl T.sz55 (TrL.done0 (.free rfl .nil))) ?_
    refine AChain.nil ?_
    intro s4
    refine Fin.keepG (Γ' := [(0, _), (10, _), (12, _)]) (.same rfl (.same rfl (.same rfl .nil))) ?_
    refine Fin.next ?_
    refine Tr.seq ?_
    refine Tr.region ?_
    refine TrL.stepS 43 (.plain rfl (.move rfl (.of rfl))) rfl rfl ?_
    refine TrL.stepS 44 (.plain rfl (.nilCheckP rfl (.of rfl))) rfl rfl ?_
    refine TrL.stepS 45 (.plain rfl (.fieldP rfl (.of rfl) T.fl197_0)) rfl rfl ?_
    refine TrL.stepS 46 (.plain rfl (.loadR 2 rfl (.of rfl) rfl rfl rfl T.sc103)) rfl rfl ?_
    refine TrL.stepS 47 (.plain rfl (.move rfl (.of rfl))) rfl rfl ?_
    refine TrL.stepS 48 (.plain rfl (.indexN 3 (ix (hasP id owner cur) rows) rfl (.of rfl) (.of rfl) rfl Own.view rfl Try.underlying103 T.sz97 (by rw [if_pos hlt]) (List.getElem?_set_self hlt))) rfl rfl ?_
    refine TrL.stepS 49 (.plain rfl (.loadWV 3 (ix (hasP id owner cur) rows) 0 5 (ds := [_, _, _, _, _]) rfl (.of rfl) rfl Own.view rfl (List.getElem?_set_self hlt) rfl rfl T.ag97)) rfl rfl ?_
    refine TrL.storeW 20 (vs := [_, _, _, _, _]) rfl rfl rfl (.of rfl) (.of rfl) rfl rfl T.sz97 rfl rfl ?_
    refine TrL.stepS 11 (.plain rfl (.assign rfl (.of rfl))) rfl rfl ?_
    refine TrL.nil ?_
    refine Fin.keepG (Γ' := [(10, _), (11, _)]) (.same rfl (.same rfl .nil)) ?_
    refine Fin.next ?_
    refine Tr.ret ?_
    refine Fin.retGI 2 rfl (()) [2, 3] (rs := [_, _]) rfl (.cons (.cellB 20 (k := 5) (ds := [_, _, _, _, _]) rfl rfl rfl rfl T.ag97 rfl) (.cons (.tmp rfl) .nil)) (.cons (L.iv ?_) (.cons (L.iv ?_) .nil)) rfl (.same rfl (.cons rfl (fun F L w h => by unfold renewR; rw [hg]; exact h) .nil)) rfl
    · unfold renewV; rw [if_pos hlt, hg]
    · rw [hE]

/- (*tidepool/lease.Leases).Move -/
set_option maxRecDepth 100000 in
theorem F58 (b : Nat) (v : Value) (most last : Int) (rows : List Ls) (hl : rows.length ≤ 1000) (owner id epoch : Int) : FnG Try.prog 58 [is (.pointer (some ⟨b, 0, none⟩)), is (.int .i64 owner), is (.int .u64 id), is (.int .u64 epoch)] [] [BlkR b [is v, is (.int .i64 most), is (.int .u64 last)] 197, Own leaseR 97 v rows] (γ := Unit) (fun _ => Tup [is (.agg #[.int .u64 (moveV (hasP id owner true) rows epoch).1, .int .i64 (moveV (hasP id owner true) rows epoch).2.1, .int .u64 (moveV (hasP id owner true) rows epoch).2.2.1, .int .u64 (moveV (hasP id owner true) rows epoch).2.2.2.1, .bool (moveV (hasP id owner true) rows epoch).2.2.2.2]), is (.int .i64 (moveE (hasP id owner true) rows epoch))]) (fun _ => [BlkR b [is v, is (.int .i64 most), is (.int .u64 last)] 197, Own leaseR 97 v (moveR (hasP id owner true) rows epoch)]) := by
  have hxg : ix (hasP id owner true) rows < rows.length → rows[ix (hasP id owner true) rows]? = some (rows.getD (ix (hasP id owner true) rows) zL) := fun h => by rw [List.getD_eq_getElem?_getD, List.getElem?_eq_getElem h]; rfl
  have hgl : ∀ n : Int, ((if ix (hasP id owner true) rows < rows.length then (0 : Int) else if true = true then 260 else n) == 0) = true → ix (hasP id owner true) rows < rows.length := fun n h => by
    by_cases h2 : ix (hasP id owner true) rows < rows.length
    · exact h2
    · simp [h2] at h
  refine FnG.mk' Try.func58 T.nm58 rfl (N := 52) rfl rfl (t := 2) rfl fun B => ?_
  refine Tr.seq ?_
  refine Tr.region ?_
  refine TrL.allocS 20 (zs := [.int .u64 0, .int .i64 0, .int .u64 0, .int .u64 0, .bool false]) rfl rfl (by kernel_rfl) 8 rfl rfl rfl fun b20 => ?_
  refine TrL.stepS 9 (.plain rfl (.assign rfl (.of rfl))) rfl rfl ?_
  refine TrL.nil ?_
  refine Fin.keepG (Γ' := [(0, _), (1, _), (2, _), (3, _), (8, _)]) (.same rfl (.same rfl (.same rfl (.same rfl (.same rfl .nil))))) ?_
  refine Fin.next ?_
  refine Tr.seq ?_
  refine Tr.region ?_
  refine TrL.stepS 13 (.plain rfl (.move rfl (.of rfl))) rfl rfl ?_
  refine TrL.stepS 14 (.plain rfl (.move rfl (.of rfl))) rfl rfl ?_
  refine TrL.stepS 15 (.plain rfl (.move rfl (.of rfl))) rfl rfl ?_
  refine TrL.stepS 16 (.plain rfl (.callR [2, 3] rfl (F128 b v most last rows hl owner id true) (.cons (.of rfl) (.cons (.of rfl) (.cons (.of rfl) (.cons (.of rfl) .nil)))) (.same rfl (.same rfl .nil)) rfl)) rfl rfl ?_
  refine TrL.stepS 12 (.plain rfl (.move rfl (.of rfl))) rfl rfl ?_
  refine TrL.stepS 17 (.plain rfl (.extract rfl (.of rfl) rfl)) rfl rfl ?_
  refine TrL.stepS 18 (.plain rfl (.extract rfl (.of rfl) rfl)) rfl rfl ?_
  refine TrL.stepS 10 (.plain rfl (.assign rfl (.of rfl))) rfl rfl ?_
  refine TrL.stepS 11 (.plain rfl (.assign rfl (.of rfl))) rfl rfl ?_
  refine TrL.nil ?_
  refine Fin.keepG (Γ' := [(0, _), (3, _), (8, _), (10, _), (11, _)]) (.same rfl (.same rfl (.same rfl (.same rfl (.same rfl .nil))))) ?_
  refine Fin.next ?_
  refine Tr.seqJK (γ := Unit) (Γk := [(0, _), (3, _), (8, _), (10, _)]) (Mk := [(2, _), (3, _), (20, _)]) (.same rfl (.same rfl (.same rfl (.same rfl .nil)))) (.same rfl (.same rfl (.same rfl .nil))) (fun _ => True) (fun _ => fun r => r) (fun _ => fun r => (11, is (.int .i64 (moveE (hasP id owner true) rows epoch))) :: r) ?jx4 ?jk4
  case jx4 =>
    refine Tr.seq ?_
    refine Tr.region ?_
    refine TrL.stepS 19 (.plain rfl (.move rfl (.of rfl))) rfl rfl ?_
    refine TrL.stepS 20 (.plain rfl (.eql rfl (.of rfl) (.of rfl))) rfl rfl ?_
    refine TrL.stepS 21 (.plain rfl (.move rfl (.of rfl))) rfl rfl ?_
    refine TrL.stepS 22 (.guarded rfl rfl rfl fun hg => .move rfl (.of rfl)) rfl rfl ?_
    refine TrL.stepS 23 (.guarded rfl rfl rfl fun hg => .move rfl (.of rfl)) rfl rfl ?_
    refine TrL.stepS 24 (.guarded rfl rfl rfl fun hg => .nilCheckP rfl (.cond rfl hg)) rfl rfl ?_
    refine TrL.stepS 25 (.guarded rfl rfl rfl fun hg => .fieldP rfl (.cond rfl hg) T.fl197_0) rfl rfl ?_
    refine TrL.stepS 26 (.guarded rfl rfl rfl fun hg => .loadR 2 rfl (.cond rfl hg) rfl rfl rfl T.sc103) rfl rfl ?_
    refine TrL.stepS 27 (.guarded rfl rfl rfl fun hg => .move rfl (.of rfl)) rfl rfl ?_
    refine TrL.stepS 28 (.guarded rfl rfl rfl fun hg => .indexN 3 (ix (hasP id owner true) rows) rfl (.cond rfl hg) (.cond rfl hg) rfl Own.view rfl Try.underlying103 T.sz97 (by rw [if_pos (hgl _ hg)]) (hxg (hgl _ hg))) rfl rfl ?_
    refine TrL.stepS 29 (.guarded rfl rfl rfl fun hg => .fieldW 3 rfl (.cond rfl hg) rfl Own.view rfl (L.hz_pos (hxg (hgl _ hg))) T.fl97_2) rfl rfl ?_
    refine TrL.stepS 30 (.guarded rfl rfl rfl fun hg => .loadW 3 (ix (hasP id owner true) rows) 2 rfl (.cond rfl hg) rfl Own.view rfl (hxg (hgl _ hg)) rfl T.sc55) rfl rfl ?_
    refine TrL.stepS 31 (.guarded rfl rfl rfl fun hg => .lss rfl (.cond rfl hg) (.cond rfl hg)) rfl rfl ?_
    refine TrL.stepS 32 (.plain rfl (.and rfl (.of rfl) (.cond rfl fun h => h))) rfl rfl ?_
    refine TrL.nil ?_
    refine Fin.keepG (Γ' := [(0, _), (3, _), (8, _), (10, _), (11, _), (32, _)]) (.same rfl (.same rfl (.same rfl (.same rfl (.same rfl (.same rfl .nil)))))) ?_
    refine Fin.next ?_
    refine Tr.cond rfl (fun hb0 => ?_) (fun hb0 => ?_)
    · have hr0 := hb0; try simp only [decide_eq_true_eq, decide_eq_false_iff_not, beq_iff_eq, beq_eq_false_iff_ne, bne_iff_ne, bne_eq_false_iff_eq, Bool.and_eq_true, Bool.and_eq_false_iff, Bool.or_eq_true, Bool.or_eq_false_iff, Bool.not_eq_true', Bool.not_eq_false', gt_iff_lt, ge_iff_le, Int.not_lt, Int.not_le, ne_eq, Int.natCast_nonneg, true_and, and_true, Decidable.not_not, not_true_eq_false, not_false_eq_true] at hb0
      refine Tr.region ?_
      refine TrL.stepS 11 (.plain rfl (.assign rfl (.of rfl))) rfl rfl ?_
      refine TrL.nil ?_
      refine Fin.keepG (Γ' := [(0, _), (3, _), (8, _), (10, _), (11, _)]) (.same rfl (.same rfl (.same rfl (.same rfl (.same rfl .nil))))) ?_
      have hlt : ix (hasP id owner true) rows < rows.length := by
        by_cases h : ix (hasP id owner true) rows < rows.length
        · exact h
        · simp [h] at hr0
      exact Fin.reach (()) (trivial) (.same rfl (.same rfl (.same rfl .nil))) (.eq rfl (by unfold moveE; rw [if_pos hlt, if_pos (by simpa [hlt] using hr0)]) (.same rfl (.same rfl (.same rfl (.same rfl .nil)))))
    · have hr0 := hb0; try simp only [decide_eq_true_eq, decide_eq_false_iff_not, beq_iff_eq, beq_eq_false_iff_ne, bne_iff_ne, bne_eq_false_iff_eq, Bool.and_eq_true, Bool.and_eq_false_iff, Bool.or_eq_true, Bool.or_eq_false_iff, Bool.not_eq_true', Bool.not_eq_false', gt_iff_lt, ge_iff_le, Int.not_lt, Int.not_le, ne_eq, Int.natCast_nonneg, true_and, and_true, Decidable.not_not, not_true_eq_false, not_false_eq_true] at hb0
      refine Tr.skip ?_
      have hme : moveE (hasP id owner true) rows epoch = (if ix (hasP id owner true) rows < rows.length then 0 else if true = true then 260 else 220) := by
        unfold moveE
        by_cases hlt : ix (hasP id owner true) rows < rows.length
        · rw [if_pos hlt, if_pos hlt, if_neg (by simpa [hlt] using hr0)]
        · rw [if_neg hlt, if_neg hlt]; rfl
      exact Fin.reach (()) (trivial) (.same rfl (.same rfl (.same rfl .nil))) (.eq rfl (by rw [hme]) (.same rfl (.same rfl (.same rfl (.same rfl .nil)))))
  case jk4 =>
    intro _ hI
    refine Tr.seq ?_
    refine Tr.seq ?_
    refine Tr.region ?_
    refine TrL.stepS 33 (.plain rfl (.move rfl (.of rfl))) rfl rfl ?_
    refine TrL.stepS 34 (.plain rfl (.neq rfl (.of rfl) (.of rfl))) rfl rfl ?_
    refine TrL.nil ?_
    refine Fin.keepG (Γ' := [(0, _), (3, _), (8, _), (10, _), (11, _), (34, _)]) (.same rfl (.same rfl (.same rfl (.same rfl (.same rfl (.same rfl .nil)))))) ?_
    refine Fin.next ?_
    refine Tr.cond rfl (fun hb1 => ?_) (fun hb1 => ?_)
    · try simp only [decide_eq_true_eq, decide_eq_false_iff_not, beq_iff_eq, beq_eq_false_iff_ne, bne_iff_ne, bne_eq_false_iff_eq, Bool.and_eq_true, Bool.and_eq_false_iff, Bool.or_eq_true, Bool.or_eq_false_iff, Bool.not_eq_true', Bool.not_eq_false', gt_iff_lt, ge_iff_le, Int.not_lt, Int.not_le, ne_eq, Int.natCast_nonneg, true_and, and_true, Decidable.not_not, not_true_eq_false, not_false_eq_true] at hb1
      refine Tr.seq ?_
      refine Tr.region ?_
      refine TrL.stepS 35 (.plain rfl (.build rfl .nil (T.H2bd97))) rfl rfl ?_
      refine TrL.stepS 36 (.plain rfl (.move rfl (.of rfl))) rfl rfl ?_
      refine TrL.storeW 20 (vs := [_, _, _, _, _]) rfl rfl rfl (.of rfl) (.of rfl) rfl rfl T.sz97 rfl rfl ?_
      refine TrL.stepS 9 (.plain rfl (.assign rfl (.of rfl))) rfl rfl ?_
      refine TrL.nil ?_
      refine Fin.keepG (Γ' := [(8, _), (9, _)]) (.same rfl (.same rfl .nil)) ?_
      refine Fin.next ?_
      refine Tr.ret ?_
      refine Fin.thenRet ?_
      refine Fin.retGI 2 rfl (()) [2, 3] (rs := [_, _]) rfl (.cons (.cellB 20 (k := 5) (ds := [_, _, _, _, _]) rfl rfl rfl rfl T.ag97 rfl) (.cons (.tmp rfl) .nil)) (.cons (L.iv ?_) (.cons (L.iv rfl) .nil)) rfl (.same rfl (.cons rfl (fun F L w h => by unfold moveR; rw [if_neg hb1]; exact h) .nil)) rfl
      · unfold moveV; rw [if_neg hb1]; rfl
    · try simp only [decide_eq_true_eq, decide_eq_false_iff_not, beq_iff_eq, beq_eq_false_iff_ne, bne_iff_ne, bne_eq_false_iff_eq, Bool.and_eq_true, Bool.and_eq_false_iff, Bool.or_eq_true, Bool.or_eq_false_iff, Bool.not_eq_true', Bool.not_eq_false', gt_iff_lt, ge_iff_le, Int.not_lt, Int.not_le, ne_eq, Int.natCast_nonneg, true_and, and_true, Decidable.not_not, not_true_eq_false, not_false_eq_true] at hb1
      have hlt : ix (hasP id owner true) rows < rows.length := by
        by_cases h : ix (hasP id owner true) rows < rows.length
        · exact h
        · unfold moveE at hb1; rw [if_neg h] at hb1; omega
      refine Tr.skip ?_
      refine Fin.next ?_
      refine Tr.seq ?_
      refine Tr.region ?_
      refine TrL.stepS 37 (.plain rfl (.move rfl (.of rfl))) rfl rfl ?_
      refine TrL.stepS 38 (.plain rfl (.nilCheckP rfl (.of rfl))) rfl rfl ?_
      refine TrL.stepS 39 (.plain rfl (.fieldP rfl (.of rfl) T.fl197_0)) rfl rfl ?_
      refine TrL.stepS 40 (.plain rfl (.loadR 2 rfl (.of rfl) rfl rfl rfl T.sc103)) rfl rfl ?_
      refine TrL.stepS 41 (.plain rfl (.move rfl (.of rfl))) rfl rfl ?_
      refine TrL.stepS 42 (.plain rfl (.move rfl (.of rfl))) rfl rfl ?_
      refine TrL.stepS 43 (.plain rfl (.indexN 3 (ix (hasP id owner true) rows) rfl (.of rfl) (.of rfl) rfl Own.view rfl Try.underlying103 T.sz97 (by rw [if_pos hlt]) (hxg hlt))) rfl rfl ?_
      refine TrL.stepS 44 (.plain rfl (.fieldW 3 rfl (.of rfl) rfl Own.view rfl (L.hz_pos (hxg hlt)) T.fl97_2)) rfl rfl ?_
      refine TrL.storeO 3 (ix (hasP id owner true) rows) 2 (z' := setE (rows.getD (ix (hasP id owner true) rows) zL) epoch) rfl rfl rfl (.of rfl) (.of rfl) (L.hR1 (L.h1is rfl rfl)) rfl rfl (hxg hlt) rfl rfl T.sz55 ?_
      refine TrL.nil ?_
      refine Fin.keepG (Γ' := [(0, _), (8, _), (10, _)]) (.same rfl (.same rfl (.same rfl .nil))) ?_
      refine Fin.next ?_
      refine Tr.seq ?_
      refine Tr.region ?_
      refine TrL.stepS 45 (.plain rfl (.move rfl (.of rfl))) rfl rfl ?_
      refine TrL.stepS 46 (.plain rfl (.nilCheckP rfl (.of rfl))) rfl rfl ?_
      refine TrL.stepS 47 (.plain rfl (.fieldP rfl (.of rfl) T.fl197_0)) rfl rfl ?_
      refine TrL.stepS 48 (.plain rfl (.loadR 2 rfl (.of rfl) rfl rfl rfl T.sc103)) rfl rfl ?_
      refine TrL.stepS 49 (.plain rfl (.move rfl (.of rfl))) rfl rfl ?_
      refine TrL.stepS 50 (.plain rfl (.indexN 3 (ix (hasP id owner true) rows) rfl (.of rfl) (.of rfl) rfl Own.view rfl Try.underlying103 T.sz97 (by rw [if_pos hlt]) (List.getElem?_set_self hlt))) rfl rfl ?_
      refine TrL.stepS 51 (.plain rfl (.loadWV 3 (ix (hasP id owner true) rows) 0 5 (ds := [_, _, _, _, _]) rfl (.of rfl) rfl Own.view rfl (List.getElem?_set_self hlt) rfl rfl T.ag97)) rfl rfl ?_
      refine TrL.storeW 20 (vs := [_, _, _, _, _]) rfl rfl rfl (.of rfl) (.of rfl) rfl rfl T.sz97 rfl rfl ?_
      refine TrL.stepS 9 (.plain rfl (.assign rfl (.of rfl))) rfl rfl ?_
      refine TrL.nil ?_
      refine Fin.keepG (Γ' := [(8, _), (9, _)]) (.same rfl (.same rfl .nil)) ?_
      refine Fin.next ?_
      refine Tr.ret ?_
      refine Fin.retGI 2 rfl (()) [2, 3] (rs := [_, _]) rfl (.cons (.cellB 20 (k := 5) (ds := [_, _, _, _, _]) rfl rfl rfl rfl T.ag97 rfl) (.cons (.tmp rfl) .nil)) (.cons (L.iv ?_) (.cons (L.iv ?_) .nil)) rfl (.same rfl (.cons rfl (fun F L w h => by unfold moveR; rw [if_pos hb1]; exact h) .nil)) rfl
      · unfold moveV; rw [if_pos hb1]
      · rw [hb1]

/- (*tidepool/lease.Leases).Len -/
set_option maxRecDepth 100000 in
theorem F69 (b : Nat) (v : Value) (most last : Int) (rows : List Ls) (hl : rows.length ≤ 1000) : FnG Try.prog 69 [is (.pointer (some ⟨b, 0, none⟩))] [BlkR b [is v, is (.int .i64 most), is (.int .u64 last)] 197, Own leaseR 97 v rows] [] (γ := Unit) (fun _ => is (.int .i64 rows.length)) (fun _ => []) := by
  refine FnG.mk' Try.func69 T.nm69 rfl (N := 10) rfl rfl (t := 4) rfl fun B => ?_
  refine Tr.seq ?_
  refine Tr.region ?_
  refine TrL.stepS 2 (.plain rfl (.assign rfl (.of rfl))) rfl rfl ?_
  refine TrL.nil ?_
  refine Fin.keepG (Γ' := [(0, _)]) (.same rfl .nil) ?_
  refine Fin.next ?_
  refine Tr.seq ?_
  refine Tr.seq ?_
  refine Tr.region ?_
  refine TrL.stepS 3 (.plain rfl (.move rfl (.of rfl))) rfl rfl ?_
  refine TrL.stepS 4 (.plain rfl (.eqlPN rfl (.of rfl) (.of rfl) Try.underlying94)) rfl rfl ?_
  refine TrL.nil ?_
  refine Fin.keepG (Γ' := [(0, _), (4, _)]) (.same rfl (.same rfl .nil)) ?_
  refine Fin.next ?_
  refine Tr.cond rfl (fun hb0 => ?_) (fun hb0 => ?_)
  · try simp only [decide_eq_true_eq, decide_eq_false_iff_not, beq_iff_eq, beq_eq_false_iff_ne, bne_iff_ne, bne_eq_false_iff_eq, Bool.and_eq_true, Bool.and_eq_false_iff, Bool.or_eq_true, Bool.or_eq_false_iff, Bool.not_eq_true', Bool.not_eq_false', gt_iff_lt, ge_iff_le, Int.not_lt, Int.not_le, ne_eq, Int.natCast_nonneg, true_and, and_true, Decidable.not_not, not_true_eq_false, not_false_eq_true] at hb0
    cases hb0
  · try simp only [decide_eq_true_eq, decide_eq_false_iff_not, beq_iff_eq, beq_eq_false_iff_ne, bne_iff_ne, bne_eq_false_iff_eq, Bool.and_eq_true, Bool.and_eq_false_iff, Bool.or_eq_true, Bool.or_eq_false_iff, Bool.not_eq_true', Bool.not_eq_false', gt_iff_lt, ge_iff_le, Int.not_lt, Int.not_le, ne_eq, Int.natCast_nonneg, true_and, and_true, Decidable.not_not, not_true_eq_false, not_false_eq_true] at hb0
    refine Tr.skip ?_
    refine Fin.next ?_
    refine Tr.seq ?_
    refine Tr.region ?_
    refine TrL.stepS 5 (.plain rfl (.move rfl (.of rfl))) rfl rfl ?_
    refine TrL.stepS 6 (.plain rfl (.nilCheckP rfl (.of rfl))) rfl rfl ?_
    refine TrL.stepS 7 (.plain rfl (.fieldP rfl (.of rfl) T.fl197_0)) rfl rfl ?_
    refine TrL.stepS 8 (.plain rfl (.loadR 2 rfl (.of rfl) rfl rfl rfl T.sc103)) rfl rfl ?_
    refine TrL.stepS 9 (.plain rfl (.lenV 3 rfl (.of rfl) rfl Own.view rfl Try.underlying103)) rfl rfl ?_
    refine TrL.stepS 2 (.plain rfl (.assign rfl (.of rfl))) rfl rfl ?_
    refine TrL.nil ?_
    refine Fin.keepG (Γ' := [(2, _)]) (.same rfl .nil) ?_
    refine Fin.next ?_
    refine Tr.ret ?_
    exact Fin.retGI 4 rfl (()) [] (rs := [_]) rfl (.cons (.tmp rfl) .nil) (.cons (L.iv rfl) .nil) rfl (.nil) rfl

/- slices.Clone[[]tidepool/lease.Lease,tidepool/lease.Lease] -/
set_option maxRecDepth 100000 in
theorem F133 (v : Value) (xs : List Ls) (hl : xs.length ≤ 1048576) : FnG Try.prog 133 [is v] [View leaseR v xs] [] (γ := Value) (fun v' => is v') (fun v' => [Own leaseR 97 v' xs]) := by
  refine FnG.mk' Try.func133 T.nm133 rfl (N := 8) rfl rfl (t := 3) rfl fun B => ?_
  refine Tr.seq ?_
  refine Tr.memP 2 rfl rfl view_form2 fun hf => ?_
  obtain ⟨A, c, rfl, hc, hA⟩ := hf
  refine Tr.region ?_
  refine TrL.stepS 2 (.plain rfl (.assign rfl (.of rfl))) rfl rfl ?_
  refine TrL.nil ?_
  refine Fin.keepG (Γ' := [(0, _)]) (.same rfl .nil) ?_
  refine Fin.next ?_
  refine Tr.seq ?_
  refine Tr.seq ?_
  refine Tr.region ?_
  refine TrL.stepS 3 (.plain rfl (.move rfl (.of rfl))) rfl rfl ?_
  refine TrL.stepS 4 (.plain rfl (.eqlSN rfl (.of rfl) (.of rfl) Try.underlying103)) rfl rfl ?_
  refine TrL.nil ?_
  refine Fin.keepG (Γ' := [(0, _), (4, _)]) (.same rfl (.same rfl .nil)) ?_
  refine Fin.next ?_
  refine Tr.cond rfl (fun hb0 => ?_) (fun hb0 => ?_)
  · try simp only [decide_eq_true_eq, decide_eq_false_iff_not, beq_iff_eq, beq_eq_false_iff_ne, bne_iff_ne, bne_eq_false_iff_eq, Bool.and_eq_true, Bool.and_eq_false_iff, Bool.or_eq_true, Bool.or_eq_false_iff, Bool.not_eq_true', Bool.not_eq_false', gt_iff_lt, ge_iff_le, Int.not_lt, Int.not_le, ne_eq, Int.natCast_nonneg, true_and, and_true, Decidable.not_not, not_true_eq_false, not_false_eq_true] at hb0
    have hx0 : xs = [] := hA (by simpa using hb0)
    refine Tr.seq ?_
    refine Tr.region ?_
    refine TrL.stepS 2 (.plain rfl (.assign rfl (.of rfl))) rfl rfl ?_
    refine TrL.nil ?_
    refine Fin.keepG (Γ' := [(2, _)]) (.same rfl .nil) ?_
    refine Fin.next ?_
    refine Tr.ret ?_
    refine Fin.thenRet ?_
    refine Fin.own0 30 leaseR 97 rfl ?_
    exact Fin.retGI 3 rfl (.slice none 0 0) [30] (rs := [_]) rfl (.cons (.tmp rfl) .nil) (.cons (L.iv rfl) .nil) rfl (.cons rfl (fun F L w h => by rw [hx0]; exact h) .nil) rfl
  · try simp only [decide_eq_true_eq, decide_eq_false_iff_not, beq_iff_eq, beq_eq_false_iff_ne, bne_iff_ne, bne_eq_false_iff_eq, Bool.and_eq_true, Bool.and_eq_false_iff, Bool.or_eq_true, Bool.or_eq_false_iff, Bool.not_eq_true', Bool.not_eq_false', gt_iff_lt, ge_iff_le, Int.not_lt, Int.not_le, ne_eq, Int.natCast_nonneg, true_and, and_true, Decidable.not_not, not_true_eq_false, not_false_eq_true] at hb0
    refine Tr.skip ?_
    refine Fin.next ?_
    refine Tr.seq ?_
    refine Tr.region ?_
    refine TrL.sliceOwn 20 (K := leaseR) (xs := []) rfl rfl 5 rfl rfl .nil Try.underlying103 T.sz97 T.zb97 rfl (by decide) rfl fun v5 hv5 => ?_
    refine TrL.stepS 6 (.plain rfl (.move rfl (.of rfl))) rfl rfl ?_
    refine TrL.appendV 20 2 (bytes := 40) rfl rfl 7 rfl rfl (.of rfl) rfl rfl (.of rfl) rfl View.refl rfl Try.underlying103 T.sz97 T.el97 (by simp; omega) (by simp only [maxLen, List.length_append, List.length_cons, List.length_nil, List.length_map, List.length_take]; omega) fun v7 => ?_
    refine TrL.stepS 2 (.plain rfl (.assign rfl (.of rfl))) rfl rfl ?_
    refine TrL.nil ?_
    refine Fin.keepG (Γ' := [(2, _)]) (.same rfl .nil) ?_
    refine Fin.next ?_
    refine Tr.ret ?_
    exact Fin.retGI 3 rfl (v7) [20] (rs := [_]) rfl (.cons (.tmp rfl) .nil) (.cons (L.iv rfl) .nil) rfl (.cons rfl (fun F L w h => by simpa using h) .nil) rfl

/- (*tidepool/lease.Leases).Live -/
set_option maxRecDepth 100000 in
theorem F68 (b : Nat) (v : Value) (most last : Int) (rows : List Ls) (hl : rows.length ≤ 1000) : FnG Try.prog 68 [is (.pointer (some ⟨b, 0, none⟩))] [BlkR b [is v, is (.int .i64 most), is (.int .u64 last)] 197, Own leaseR 97 v rows] [] (γ := Unit) (fun _ => Lst leaseR rows) (fun _ => []) := by
  refine FnG.mk' Try.func68 T.nm68 rfl (N := 10) rfl rfl (t := 4) rfl fun B => ?_
  refine Tr.seq ?_
  refine Tr.region ?_
  refine TrL.stepS 2 (.plain rfl (.assign rfl (.of rfl))) rfl rfl ?_
  refine TrL.nil ?_
  refine Fin.keepG (Γ' := [(0, _)]) (.same rfl .nil) ?_
  refine Fin.next ?_
  refine Tr.seq ?_
  refine Tr.seq ?_
  refine Tr.region ?_
  refine TrL.stepS 3 (.plain rfl (.move rfl (.of rfl))) rfl rfl ?_
  refine TrL.stepS 4 (.plain rfl (.eqlPN rfl (.of rfl) (.of rfl) Try.underlying94)) rfl rfl ?_
  refine TrL.nil ?_
  refine Fin.keepG (Γ' := [(0, _), (4, _)]) (.same rfl (.same rfl .nil)) ?_
  refine Fin.next ?_
  refine Tr.cond rfl (fun hb0 => ?_) (fun hb0 => ?_)
  · try simp only [decide_eq_true_eq, decide_eq_false_iff_not, beq_iff_eq, beq_eq_false_iff_ne, bne_iff_ne, bne_eq_false_iff_eq, Bool.and_eq_true, Bool.and_eq_false_iff, Bool.or_eq_true, Bool.or_eq_false_iff, Bool.not_eq_true', Bool.not_eq_false', gt_iff_lt, ge_iff_le, Int.not_lt, Int.not_le, ne_eq, Int.natCast_nonneg, true_and, and_true, Decidable.not_not, not_true_eq_false, not_false_eq_true] at hb0
    cases hb0
  · try simp only [decide_eq_true_eq, decide_eq_false_iff_not, beq_iff_eq, beq_eq_false_iff_ne, bne_iff_ne, bne_eq_false_iff_eq, Bool.and_eq_true, Bool.and_eq_false_iff, Bool.or_eq_true, Bool.or_eq_false_iff, Bool.not_eq_true', Bool.not_eq_false', gt_iff_lt, ge_iff_le, Int.not_lt, Int.not_le, ne_eq, Int.natCast_nonneg, true_and, and_true, Decidable.not_not, not_true_eq_false, not_false_eq_true] at hb0
    refine Tr.skip ?_
    refine Fin.next ?_
    refine Tr.seq ?_
    refine Tr.region ?_
    refine TrL.stepS 5 (.plain rfl (.move rfl (.of rfl))) rfl rfl ?_
    refine TrL.stepS 6 (.plain rfl (.nilCheckP rfl (.of rfl))) rfl rfl ?_
    refine TrL.stepS 7 (.plain rfl (.fieldP rfl (.of rfl) T.fl197_0)) rfl rfl ?_
    refine TrL.stepS 8 (.plain rfl (.loadR 2 rfl (.of rfl) rfl rfl rfl T.sc103)) rfl rfl ?_
    refine TrL.callG [3] [] [20] rfl rfl 9 rfl rfl (F133 v rows (by omega)) (.cons (.of rfl) .nil) (.cons rfl L.Own.view .nil) rfl rfl (fun _ => rfl) fun v9 => ?_
    refine TrL.stepS 2 (.plain rfl (.assign rfl (.of rfl))) rfl rfl ?_
    refine TrL.nil ?_
    refine Fin.keepG (Γ' := [(2, _)]) (.same rfl .nil) ?_
    refine Fin.next ?_
    refine Tr.ret ?_
    refine Fin.freeze 20 2 rfl rfl rfl ?_
    exact Fin.retGI 4 rfl (()) [] (rs := [_]) rfl (.cons (.tmp rfl) .nil) (.cons (fun _ _ h => h) .nil) rfl (.nil) rfl

end Go.Proofs.Ytemkogoclljhpaa