import Derived.Test.YtemkogoclljhpaaLT
import Derived.Test.YtemkogoclljhpaaLU
namespace Go.Proofs.Ytemkogoclljhpaa
open Go Go.Proofs.Ytemkogoclljhpaa.L
set_option linter.unusedVariables false
set_option linter.unusedSimpArgs false

namespace T

end T


abbrev Ls := Int × Int × Int × Int × Bool
def zL : Ls := (0, 0, 0, 0, false)
def leaseP : PRep Ls := ⟨5, fun a => [.int .u64 a.1, .int .i64 a.2.1, .int .u64 a.2.2.1, .int .u64 a.2.2.2.1, .bool a.2.2.2.2], fun _ => rfl, fun _ => rfl, by decide, zL⟩
def leaseR : Rep Ls := leaseP.rep
theorem leaseR_elem (a b c d : Int) (e : Bool) : ∀ v w, is (.agg #[.int .u64 a, .int .i64 b, .int .u64 c, .int .u64 d, .bool e]) v w → ElemV leaseR (a, b, c, d, e) v w := by
  rintro v w rfl
  exact .cons rfl (.cons rfl (.cons rfl (.cons rfl (.cons rfl .nil))))
theorem ex_get {α : Type} {xs : List α} {i : Nat} (h : i < xs.length) : ∃ x, xs[i]? = some x := ⟨_, List.getElem?_eq_getElem h⟩
theorem take_snoc {α : Type} {xs : List α} {k : Nat} {x : α} (h : xs[k]? = some x) : xs.take (k + 1) = xs.take k ++ [x] := by
  have hk := getL_len h
  rw [List.take_succ_eq_append_getElem hk]
  rw [List.getElem?_eq_getElem hk] at h
  simp only [Option.some.injEq] at h
  rw [h]
theorem drop_snoc {α : Type} {xs : List α} {k : Nat} {x : α} (h : xs[k]? = some x) : xs.drop k = x :: xs.drop (k + 1) := by
  have hk := getL_len h
  rw [List.drop_eq_getElem_cons hk]
  rw [List.getElem?_eq_getElem hk] at h
  simp only [Option.some.injEq] at h
  rw [h]
theorem getD_of {α : Type} {xs : List α} {k : Nat} {x d : α} (h : xs[k]? = some x) : xs.getD k d = x := by rw [List.getD_eq_getElem?_getD, h]; rfl
def setU (x : Ls) (u : Int) : Ls := (x.1, x.2.1, x.2.2.1, max x.2.2.2.1 u, x.2.2.2.2)
def setE (x : Ls) (e : Int) : Ls := (x.1, x.2.1, e, x.2.2.2.1, x.2.2.2.2)
def hasP (id owner : Int) (cur : Bool) (x : Ls) : Bool := decide (x.1 = id) && decide (x.2.1 = owner) && decide (x.2.2.2.2 = cur)
/-- the place of the first; as many as there are, if there is none -/
def ix (p : Ls → Bool) (rows : List Ls) : Nat := rows.findIdx p
theorem ix_le (p : Ls → Bool) (rows : List Ls) : ix p rows ≤ rows.length := List.findIdx_le_length
theorem ix_here {p : Ls → Bool} {rows : List Ls} {k : Nat} {x : Ls} (hx : rows[k]? = some x) (hp : p x = true) (h : ∀ y ∈ rows.take k, p y = false) : ix p rows = k := by
  have hk := getL_len hx
  have hxk : rows[k] = x := by rw [List.getElem?_eq_getElem hk] at hx; simpa using hx
  unfold ix
  rw [List.findIdx_eq hk]
  refine ⟨by rw [hxk]; exact hp, fun j hj => ?_⟩
  have := h (rows[j]'(by omega)) (List.mem_take_iff_getElem.2 ⟨j, by omega, rfl⟩)
  simp [this]
theorem ix_none {p : Ls → Bool} {rows : List Ls} (h : ∀ y ∈ rows, p y = false) : ix p rows = rows.length := List.findIdx_eq_length.2 h
theorem ix_get {p : Ls → Bool} {rows : List Ls} (h : ix p rows < rows.length) : ∃ x, rows[ix p rows]? = some x ∧ p x = true := ⟨_, List.getElem?_eq_getElem h, List.findIdx_getElem⟩
/-- leases: the struct, and its rows -/
def grantR (rows : List Ls) (most : Int) (x : Ls) : List Ls := if most ≤ rows.length then rows else rows ++ [x]

/- (*tidepool/lease.Leases).find$1 -/
set_option maxRecDepth 100000 in
theorem F168 (c1 c2 c3 : Nat) (id owner : Int) (cur : Bool) (x : Ls) : FnG Try.prog 168 [is (.agg #[.int .u64 x.1, .int .i64 x.2.1, .int .u64 x.2.2.1, .int .u64 x.2.2.2.1, .bool x.2.2.2.2]), is (.pointer (some ⟨c1, 0, none⟩)), is (.pointer (some ⟨c2, 0, none⟩)), is (.pointer (some ⟨c3, 0, none⟩))] [Blk c1 [.int .u64 id] 55, Blk c2 [.int .i64 owner] 3, Blk c3 [.bool cur] 4] [] (γ := Unit) (fun _ => is (.bool (hasP id owner cur x))) (fun _ => []) := by
  refine FnG.mk' Try.func168 T.nm168 rfl (N := 22) rfl rfl (t := 5) rfl fun B => ?_
  refine Tr.seq ?_
  refine Tr.region ?_
  refine TrL.stepS 4 (.plain rfl (.boxR rfl (.of rfl))) rfl rfl ?_
  refine TrL.stepS 5 (.plain rfl (.assign rfl (.of rfl))) rfl rfl ?_
  refine TrL.nil ?_
  refine Fin.keepG (Γ' := [(1, _), (2, _), (3, _), (4, _)]) (.same rfl (.same rfl (.same rfl (.same rfl .nil)))) ?_
  refine Fin.next ?_
  refine Tr.seq ?_
  refine Tr.region ?_
  refine TrL.stepS 6 (.plain rfl (.fieldC rfl (.of rfl) T.fl97_0)) rfl rfl ?_
  refine TrL.stepS 7 (.plain rfl (.load1 rfl (.of rfl) T.sc55)) rfl rfl ?_
  refine TrL.stepS 8 (.plain rfl (.loadB 2 rfl (.of rfl) rfl rfl rfl T.sc55)) rfl rfl ?_
  refine TrL.stepS 9 (.plain rfl (.eql rfl (.of rfl) (.of rfl))) rfl rfl ?_
  refine TrL.stepS 10 (.plain rfl (.move rfl (.of rfl))) rfl rfl ?_
  refine TrL.stepS 11 (.guarded rfl rfl rfl fun hg => .fieldC rfl (.of rfl) T.fl97_1) rfl rfl ?_
  refine TrL.stepS 12 (.guarded rfl rfl rfl fun hg => .load1 rfl (.cond rfl hg) T.sc3) rfl rfl ?_
  refine TrL.stepS 13 (.guarded rfl rfl rfl fun hg => .loadB 3 rfl (.of rfl) rfl rfl rfl T.sc3) rfl rfl ?_
  refine TrL.stepS 14 (.guarded rfl rfl rfl fun hg => .eql rfl (.cond rfl hg) (.cond rfl hg)) rfl rfl ?_
  refine TrL.stepS 15 (.plain rfl (.and rfl (.of rfl) (.cond rfl fun h => h))) rfl rfl ?_
  refine TrL.stepS 16 (.plain rfl (.move rfl (.of rfl))) rfl rfl ?_
  refine TrL.stepS 17 (.guarded rfl rfl rfl fun hg => .fieldC rfl (.of rfl) T.fl97_4) rfl rfl ?_
  refine TrL.stepS 18 (.guarded rfl rfl rfl fun hg => .load1 rfl (.cond rfl hg) T.sc4) rfl rfl ?_
  refine TrL.stepS 19 (.guarded rfl rfl rfl fun hg => .loadB 4 rfl (.of rfl) rfl rfl rfl T.sc4) rfl rfl ?_
  refine TrL.stepS 20 (.guarded rfl rfl rfl fun hg => .eqlB rfl (.cond rfl hg) (.cond rfl hg) Try.underlying4) rfl rfl ?_
  refine TrL.stepS 21 (.plain rfl (.and rfl (.of rfl) (.cond rfl fun h => h))) rfl rfl ?_
  refine TrL.stepS 5 (.plain rfl (.assign rfl (.of rfl))) rfl rfl ?_
  refine TrL.nil ?_
  refine Fin.keepG (Γ' := [(5, _)]) (.same rfl .nil) ?_
  refine Fin.next ?_
  refine Tr.ret ?_
  exact Fin.retGI 5 rfl (()) [] (rs := [_]) rfl (.cons (.tmp rfl) .nil) (.cons (L.iv rfl) .nil) rfl (.nil) rfl

/- (*tidepool/lease.Leases).Expire$1 -/
set_option maxRecDepth 100000 in
theorem F130 (c1 : Nat) (n : Int) (x : Ls) : FnG Try.prog 130 [is (.agg #[.int .u64 x.1, .int .i64 x.2.1, .int .u64 x.2.2.1, .int .u64 x.2.2.2.1, .bool x.2.2.2.2]), is (.pointer (some ⟨c1, 0, none⟩))] [Blk c1 [.int .u64 n] 55] [] (γ := Unit) (fun _ => is (.bool (decide (x.2.2.2.1 ≤ n)))) (fun _ => []) := by
  refine FnG.mk' Try.func130 T.nm130 rfl (N := 8) rfl rfl (t := 3) rfl fun B => ?_
  refine Tr.seq ?_
  refine Tr.region ?_
  refine TrL.stepS 2 (.plain rfl (.boxR rfl (.of rfl))) rfl rfl ?_
  refine TrL.stepS 3 (.plain rfl (.assign rfl (.of rfl))) rfl rfl ?_
  refine TrL.nil ?_
  refine Fin.keepG (Γ' := [(1, _), (2, _)]) (.same rfl (.same rfl .nil)) ?_
  refine Fin.next ?_
  refine Tr.seq ?_
  refine Tr.region ?_
  refine TrL.stepS 4 (.plain rfl (.loadB 2 rfl (.of rfl) rfl rfl rfl T.sc55)) rfl rfl ?_
  refine TrL.stepS 5 (.plain rfl (.fieldC rfl (.of rfl) T.fl97_3)) rfl rfl ?_
  refine TrL.stepS 6 (.plain rfl (.load1 rfl (.of rfl) T.sc55)) rfl rfl ?_
  refine TrL.stepS 7 (.plain rfl (.geq rfl (.of rfl) (.of rfl))) rfl rfl ?_
  refine TrL.stepS 3 (.plain rfl (.assign rfl (.of rfl))) rfl rfl ?_
  refine TrL.nil ?_
  refine Fin.keepG (Γ' := [(3, _)]) (.same rfl .nil) ?_
  refine Fin.next ?_
  refine Tr.ret ?_
  exact Fin.retGI 3 rfl (()) [] (rs := [_]) rfl (.cons (.tmp rfl) .nil) (.cons (L.iv rfl) .nil) rfl (.nil) rfl

/- (*tidepool/lease.Leases).Leave$1 -/
set_option maxRecDepth 100000 in
theorem F132 (c1 : Nat) (n : Int) (x : Ls) : FnG Try.prog 132 [is (.agg #[.int .u64 x.1, .int .i64 x.2.1, .int .u64 x.2.2.1, .int .u64 x.2.2.2.1, .bool x.2.2.2.2]), is (.pointer (some ⟨c1, 0, none⟩))] [Blk c1 [.int .i64 n] 3] [] (γ := Unit) (fun _ => is (.bool (x.2.1 == n))) (fun _ => []) := by
  refine FnG.mk' Try.func132 T.nm132 rfl (N := 8) rfl rfl (t := 3) rfl fun B => ?_
  refine Tr.seq ?_
  refine Tr.region ?_
  refine TrL.stepS 2 (.plain rfl (.boxR rfl (.of rfl))) rfl rfl ?_
  refine TrL.stepS 3 (.plain rfl (.assign rfl (.of rfl))) rfl rfl ?_
  refine TrL.nil ?_
  refine Fin.keepG (Γ' := [(1, _), (2, _)]) (.same rfl (.same rfl .nil)) ?_
  refine Fin.next ?_
  refine Tr.seq ?_
  refine Tr.region ?_
  refine TrL.stepS 4 (.plain rfl (.fieldC rfl (.of rfl) T.fl97_1)) rfl rfl ?_
  refine TrL.stepS 5 (.plain rfl (.load1 rfl (.of rfl) T.sc3)) rfl rfl ?_
  refine TrL.stepS 6 (.plain rfl (.loadB 2 rfl (.of rfl) rfl rfl rfl T.sc3)) rfl rfl ?_
  refine TrL.stepS 7 (.plain rfl (.eql rfl (.of rfl) (.of rfl))) rfl rfl ?_
  refine TrL.stepS 3 (.plain rfl (.assign rfl (.of rfl))) rfl rfl ?_
  refine TrL.nil ?_
  refine Fin.keepG (Γ' := [(3, _)]) (.same rfl .nil) ?_
  refine Fin.next ?_
  refine Tr.ret ?_
  exact Fin.retGI 3 rfl (()) [] (rs := [_]) rfl (.cons (.tmp rfl) .nil) (.cons (L.iv rfl) .nil) rfl (.nil) rfl

/- tidepool/tidepooltop.held34$2 -/
set_option maxRecDepth 100000 in
theorem F63 (c1 : Nat) (n : Int) (x : Ls) : FnG Try.prog 63 [is (.agg #[.int .u64 x.1, .int .i64 x.2.1, .int .u64 x.2.2.1, .int .u64 x.2.2.2.1, .bool x.2.2.2.2]), is (.pointer (some ⟨c1, 0, none⟩))] [Blk c1 [.int .u64 n] 55] [] (γ := Unit) (fun _ => is (.bool (x.1 == n))) (fun _ => []) := by
  refine FnG.mk' Try.func63 T.nm63 rfl (N := 8) rfl rfl (t := 3) rfl fun B => ?_
  refine Tr.seq ?_
  refine Tr.region ?_
  refine TrL.stepS 2 (.plain rfl (.boxR rfl (.of rfl))) rfl rfl ?_
  refine TrL.stepS 3 (.plain rfl (.assign rfl (.of rfl))) rfl rfl ?_
  refine TrL.nil ?_
  refine Fin.keepG (Γ' := [(1, _), (2, _)]) (.same rfl (.same rfl .nil)) ?_
  refine Fin.next ?_
  refine Tr.seq ?_
  refine Tr.region ?_
  refine TrL.stepS 4 (.plain rfl (.fieldC rfl (.of rfl) T.fl97_0)) rfl rfl ?_
  refine TrL.stepS 5 (.plain rfl (.load1 rfl (.of rfl) T.sc55)) rfl rfl ?_
  refine TrL.stepS 6 (.plain rfl (.loadB 2 rfl (.of rfl) rfl rfl rfl T.sc55)) rfl rfl ?_
  refine TrL.stepS 7 (.plain rfl (.eql rfl (.of rfl) (.of rfl))) rfl rfl ?_
  refine TrL.stepS 3 (.plain rfl (.assign rfl (.of rfl))) rfl rfl ?_
  refine TrL.nil ?_
  refine Fin.keepG (Γ' := [(3, _)]) (.same rfl .nil) ?_
  refine Fin.next ?_
  refine Tr.ret ?_
  exact Fin.retGI 3 rfl (()) [] (rs := [_]) rfl (.cons (.tmp rfl) .nil) (.cons (L.iv rfl) .nil) rfl (.nil) rfl

/- tidepool/tidepooltop.held34$3 -/
set_option maxRecDepth 100000 in
theorem F64 (c1 : Nat) (n : Int) (x : Ls) : FnG Try.prog 64 [is (.agg #[.int .u64 x.1, .int .i64 x.2.1, .int .u64 x.2.2.1, .int .u64 x.2.2.2.1, .bool x.2.2.2.2]), is (.pointer (some ⟨c1, 0, none⟩))] [Blk c1 [.int .u64 n] 55] [] (γ := Unit) (fun _ => is (.bool (decide (x.2.2.2.1 ≤ n)))) (fun _ => []) := by
  refine FnG.mk' Try.func64 T.nm64 rfl (N := 8) rfl rfl (t := 3) rfl fun B => ?_
  refine Tr.seq ?_
  refine Tr.region ?_
  refine TrL.stepS 2 (.plain rfl (.boxR rfl (.of rfl))) rfl rfl ?_
  refine TrL.stepS 3 (.plain rfl (.assign rfl (.of rfl))) rfl rfl ?_
  refine TrL.nil ?_
  refine Fin.keepG (Γ' := [(1, _), (2, _)]) (.same rfl (.same rfl .nil)) ?_
  refine Fin.next ?_
  refine Tr.seq ?_
  refine Tr.region ?_
  refine TrL.stepS 4 (.plain rfl (.fieldC rfl (.of rfl) T.fl97_3)) rfl rfl ?_
  refine TrL.stepS 5 (.plain rfl (.load1 rfl (.of rfl) T.sc55)) rfl rfl ?_
  refine TrL.stepS 6 (.plain rfl (.loadB 2 rfl (.of rfl) rfl rfl rfl T.sc55)) rfl rfl ?_
  refine TrL.stepS 7 (.plain rfl (.leq rfl (.of rfl) (.of rfl))) rfl rfl ?_
  refine TrL.stepS 3 (.plain rfl (.assign rfl (.of rfl))) rfl rfl ?_
  refine TrL.nil ?_
  refine Fin.keepG (Γ' := [(3, _)]) (.same rfl .nil) ?_
  refine Fin.next ?_
  refine Tr.ret ?_
  exact Fin.retGI 3 rfl (()) [] (rs := [_]) rfl (.cons (.tmp rfl) .nil) (.cons (L.iv rfl) .nil) rfl (.nil) rfl

/- tidepool/tidepooltop.held34$4 -/
set_option maxRecDepth 100000 in
theorem F66 (c1 : Nat) (n : Int) (x : Ls) : FnG Try.prog 66 [is (.agg #[.int .u64 x.1, .int .i64 x.2.1, .int .u64 x.2.2.1, .int .u64 x.2.2.2.1, .bool x.2.2.2.2]), is (.pointer (some ⟨c1, 0, none⟩))] [Blk c1 [.int .i64 n] 3] [] (γ := Unit) (fun _ => is (.bool (x.2.1 == n))) (fun _ => []) := by
  refine FnG.mk' Try.func66 T.nm66 rfl (N := 8) rfl rfl (t := 3) rfl fun B => ?_
  refine Tr.seq ?_
  refine Tr.region ?_
  refine TrL.stepS 2 (.plain rfl (.boxR rfl (.of rfl))) rfl rfl ?_
  refine TrL.stepS 3 (.plain rfl (.assign rfl (.of rfl))) rfl rfl ?_
  refine TrL.nil ?_
  refine Fin.keepG (Γ' := [(1, _), (2, _)]) (.same rfl (.same rfl .nil)) ?_
  refine Fin.next ?_
  refine Tr.seq ?_
  refine Tr.region ?_
  refine TrL.stepS 4 (.plain rfl (.fieldC rfl (.of rfl) T.fl97_1)) rfl rfl ?_
  refine TrL.stepS 5 (.plain rfl (.load1 rfl (.of rfl) T.sc3)) rfl rfl ?_
  refine TrL.stepS 6 (.plain rfl (.loadB 2 rfl (.of rfl) rfl rfl rfl T.sc3)) rfl rfl ?_
  refine TrL.stepS 7 (.plain rfl (.eql rfl (.of rfl) (.of rfl))) rfl rfl ?_
  refine TrL.stepS 3 (.plain rfl (.assign rfl (.of rfl))) rfl rfl ?_
  refine TrL.nil ?_
  refine Fin.keepG (Γ' := [(3, _)]) (.same rfl .nil) ?_
  refine Fin.next ?_
  refine Tr.ret ?_
  exact Fin.retGI 3 rfl (()) [] (rs := [_]) rfl (.cons (.tmp rfl) .nil) (.cons (L.iv rfl) .nil) rfl (.nil) rfl

/- slices.IndexFunc[[]tidepool/lease.Lease,tidepool/lease.Lease] -/
set_option maxRecDepth 100000 in
theorem F167 (p : Ls → Bool) (fc : FuncId) (u1 u2 u3 : Value) (ρ1 ρ2 ρ3 : RP) (hc : ∀ x, FnR Try.prog fc [is (.agg #[.int .u64 x.1, .int .i64 x.2.1, .int .u64 x.2.2.1, .int .u64 x.2.2.2.1, .bool x.2.2.2.2]), is u1, is u2, is u3] [ρ1, ρ2, ρ3] (is (.bool (p x)))) (v : Value) (xs : List Ls) (hl : xs.length ≤ 1000) : FnG Try.prog 167 [is v, is (.func (.func fc) #[] #[u1, u2, u3])] [View leaseR v xs, ρ1, ρ2, ρ3] [] (γ := Unit) (fun _ => is (.int .i64 (if ix p xs < xs.length then (ix p xs : Int) else -1))) (fun _ => []) := by
  refine FnG.mk' Try.func167 T.nm167 rfl (N := 19) rfl rfl (t := 6) rfl fun B => ?_
  refine Tr.seq ?_
  refine Tr.region ?_
  refine TrL.stepS 4 (.plain rfl (.assign rfl (.of rfl))) rfl rfl ?_
  refine TrL.nil ?_
  refine Fin.keepG (Γ' := [(0, _), (1, _)]) (.same rfl (.same rfl .nil)) ?_
  refine Fin.next ?_
  refine Tr.seq ?_
  refine Tr.seq ?_
  refine Tr.region ?_
  refine TrL.stepS 6 (.plain rfl (.move rfl (.of rfl))) rfl rfl ?_
  refine TrL.stepS 7 (.plain rfl (.lenV 2 rfl (.of rfl) rfl View.refl rfl Try.underlying103)) rfl rfl ?_
  refine TrL.stepS 8 (.plain rfl (.move rfl (.of rfl))) rfl rfl ?_
  refine TrL.nil ?_
  refine Fin.keepG (Γ' := [(0, _), (1, _), (7, _), (8, _)]) (.same rfl (.same rfl (.same rfl (.same rfl .nil)))) ?_
  refine Fin.next ?_
  refine Tr.block ?_
  refine Tr.loopK (γ := Nat) (Γk := [(0, _), (1, _), (7, _)]) (Mk := [(2, _), (3, _), (4, _), (5, _)]) (.same rfl (.same rfl (.same rfl .nil))) (.same rfl (.same rfl (.same rfl (.same rfl .nil)))) (fun k => k ≤ xs.length ∧ ∀ y ∈ xs.take k, p y = false) (fun k => fun r => r) (fun k => fun r => (8, is (.int .i64 k)) :: r) (fun k => xs.length - k) (0) ?h0_0 ?hM_0 ?hG_0 ?hl_0
  case h0_0 => exact ⟨Nat.zero_le _, by simp⟩
  case hM_0 => exact (.same rfl (.same rfl (.same rfl (.same rfl .nil))))
  case hG_0 => exact (.eq rfl (by first | rfl | (congr 1; first | done | omega | (push_cast; omega) | (push_cast; rfl))) (.same rfl (.same rfl (.same rfl .nil))))
  case hl_0 =>
    intro k hI
    refine Tr.seq ?_
    refine Tr.region ?_
    refine TrL.stepS 9 (.plain rfl (.lss rfl (.of rfl) (.of rfl))) rfl rfl ?_
    refine TrL.nil ?_
    refine Fin.next ?_
    refine Tr.seq ?_
    refine Tr.cond rfl (fun hb0 => ?_) (fun hb0 => ?_)
    · try simp only [decide_eq_true_eq, decide_eq_false_iff_not, beq_iff_eq, beq_eq_false_iff_ne, bne_iff_ne, bne_eq_false_iff_eq, Bool.and_eq_true, Bool.and_eq_false_iff, Bool.or_eq_true, Bool.or_eq_false_iff, Bool.not_eq_true', Bool.not_eq_false', gt_iff_lt, ge_iff_le, Int.not_lt, Int.not_le, ne_eq, Int.natCast_nonneg, true_and, and_true, Decidable.not_not, not_true_eq_false, not_false_eq_true] at hb0
      obtain ⟨x, hx⟩ := ex_get (xs := xs) (i := k) (by omega)
      refine Tr.skip ?_
      refine Fin.next ?_
      refine Tr.seq ?_
      refine Tr.block ?_
      refine Tr.seq ?_
      refine Tr.region ?_
      refine TrL.stepS 10 (.plain rfl (.move rfl (.of rfl))) rfl rfl ?_
      refine TrL.stepS 5 (.plain rfl (.assign rfl (.of rfl))) rfl rfl ?_
      refine TrL.nil ?_
      refine Fin.keepG (Γ' := [(0, _), (1, _), (5, _), (7, _), (8, _)]) (.same rfl (.same rfl (.same rfl (.same rfl (.same rfl .nil))))) ?_
      refine Fin.next ?_
      refine Tr.seq ?_
      refine Tr.region ?_
      refine TrL.stepS 11 (.plain rfl (.move rfl (.of rfl))) rfl rfl ?_
      refine TrL.stepS 12 (.plain rfl (.move rfl (.of rfl))) rfl rfl ?_
      refine TrL.stepS 13 (.plain rfl (.move rfl (.of rfl))) rfl rfl ?_
      refine TrL.stepS 14 (.plain rfl (.indexN 2 (k) rfl (.of rfl) (.of rfl) rfl View.refl rfl Try.underlying103 T.sz97 (by omega) (hx))) rfl rfl ?_
      refine TrL.stepS 15 (.plain rfl (.loadWV 2 (k) 0 5 (ds := [_, _, _, _, _]) rfl (.of rfl) rfl View.refl rfl (hx) rfl rfl T.ag97)) rfl rfl ?_
      refine TrL.stepS 16 (.plain rfl (.callRg (first := []) (caps := [_, _, _]) [3, 4, 5] rfl (.of rfl) (hc x) (.cons (.of rfl) .nil) (.same rfl (.same rfl (.same rfl .nil))) rfl)) rfl rfl ?_
      refine TrL.nil ?_
      refine Fin.keepG (Γ' := [(0, _), (1, _), (5, _), (7, _), (8, _), (16, _)]) (.same rfl (.same rfl (.same rfl (.same rfl (.same rfl (.same rfl .nil)))))) ?_
      refine Fin.next ?_
      refine Tr.cond rfl (fun hb1 => ?_) (fun hb1 => ?_)
      · try simp only [decide_eq_true_eq, decide_eq_false_iff_not, beq_iff_eq, beq_eq_false_iff_ne, bne_iff_ne, bne_eq_false_iff_eq, Bool.and_eq_true, Bool.and_eq_false_iff, Bool.or_eq_true, Bool.or_eq_false_iff, Bool.not_eq_true', Bool.not_eq_false', gt_iff_lt, ge_iff_le, Int.not_lt, Int.not_le, ne_eq, Int.natCast_nonneg, true_and, and_true, Decidable.not_not, not_true_eq_false, not_false_eq_true] at hb1
        have hi := ix_here hx hb1 hI.2
        refine Tr.seq ?_
        refine Tr.region ?_
        refine TrL.stepS 17 (.plain rfl (.move rfl (.of rfl))) rfl rfl ?_
        refine TrL.stepS 4 (.plain rfl (.assign rfl (.of rfl))) rfl rfl ?_
        refine TrL.nil ?_
        refine Fin.keepG (Γ' := [(4, _)]) (.same rfl .nil) ?_
        refine Fin.next ?_
        refine Tr.ret ?_
        refine Fin.blockRet ?_
        refine Fin.thenRet ?_
        refine Fin.thenRet ?_
        refine Fin.blockRet ?_
        refine Fin.thenRet ?_
        refine Fin.retGI 6 rfl (()) [] (rs := [_]) rfl (.cons (.tmp rfl) .nil) (.cons (L.iv ?_) .nil) rfl (.nil) rfl
        · rw [hi, if_pos (getL_len hx)]
      · try simp only [decide_eq_true_eq, decide_eq_false_iff_not, beq_iff_eq, beq_eq_false_iff_ne, bne_iff_ne, bne_eq_false_iff_eq, Bool.and_eq_true, Bool.and_eq_false_iff, Bool.or_eq_true, Bool.or_eq_false_iff, Bool.not_eq_true', Bool.not_eq_false', gt_iff_lt, ge_iff_le, Int.not_lt, Int.not_le, ne_eq, Int.natCast_nonneg, true_and, and_true, Decidable.not_not, not_true_eq_false, not_false_eq_true] at hb1
        refine Tr.skip ?_
        refine Fin.blockNormal ?_
        refine Fin.next ?_
        refine Tr.region ?_
        first | refine TrL.stepS 18 (.plain rfl (.addI L.bd_i64 rfl (.of rfl) (.of rfl) (by omega) (by omega))) rfl rfl ?_ | refine TrL.stepS 18 (.plain rfl (.add rfl (.of rfl) (.of rfl))) rfl rfl ?_
        refine TrL.stepS 8 (.plain rfl (.move rfl (.of rfl))) rfl rfl ?_
        refine TrL.nil ?_
        refine Fin.keepG (Γ' := [(0, _), (1, _), (7, _), (8, _)]) (.same rfl (.same rfl (.same rfl (.same rfl .nil)))) ?_
        exact Fin.again (k + 1) (⟨by omega, fun y hy => by rw [take_snoc hx, List.mem_append] at hy; rcases hy with hy | hy; exact hI.2 y hy; simp only [List.mem_singleton] at hy; subst hy; simpa using hb1⟩) (by omega) (.same rfl (.same rfl (.same rfl (.same rfl .nil)))) (.eq rfl (by first | rfl | (congr 1; first | done | omega | (push_cast; omega) | (push_cast; rfl))) (.same rfl (.same rfl (.same rfl .nil))))
    · try simp only [decide_eq_true_eq, decide_eq_false_iff_not, beq_iff_eq, beq_eq_false_iff_ne, bne_iff_ne, bne_eq_false_iff_eq, Bool.and_eq_true, Bool.and_eq_false_iff, Bool.or_eq_true, Bool.or_eq_false_iff, Bool.not_eq_true', Bool.not_eq_false', gt_iff_lt, ge_iff_le, Int.not_lt, Int.not_le, ne_eq, Int.natCast_nonneg, true_and, and_true, Decidable.not_not, not_true_eq_false, not_false_eq_true] at hb0
      have hi := ix_none (p := p) (rows := xs) (fun y hy => hI.2 y (by rw [List.take_of_length_le (by omega)]; exact hy))
      refine Tr.exit ?_
      refine Fin.thenExit ?_
      refine Fin.thenExit ?_
      refine Fin.blockOut ?_
      refine Fin.next ?_
      refine Tr.seq ?_
      refine Tr.region ?_
      refine TrL.stepS 4 (.plain rfl (.assign rfl (.of rfl))) rfl rfl ?_
      refine TrL.nil ?_
      refine Fin.keepG (Γ' := [(4, _)]) (.same rfl .nil) ?_
      refine Fin.next ?_
      refine Tr.ret ?_
      refine Fin.retGI 6 rfl (()) [] (rs := [_]) rfl (.cons (.tmp rfl) .nil) (.cons (L.iv ?_) .nil) rfl (.nil) rfl
      · rw [hi, if_neg (by omega)]

/- (*tidepool/lease.Leases).find -/
set_option maxRecDepth 100000 in
theorem F128 (b : Nat) (v : Value) (most last : Int) (rows : List Ls) (hl : rows.length ≤ 1000) (owner id : Int) (cur : Bool) : FnG Try.prog 128 [is (.pointer (some ⟨b, 0, none⟩)), is (.int .i64 owner), is (.int .u64 id), is (.bool cur)] [BlkR b [is v, is (.int .i64 most), is (.int .u64 last)] 197, Own leaseR 97 v rows] [] (γ := Unit) (fun _ => Tup [is (.int .i64 (if ix (hasP id owner cur) rows < rows.length then (ix (hasP id owner cur) rows : Int) else 0)), is (.int .i64 (if ix (hasP id owner cur) rows < rows.length then 0 else if cur = true then 260 else 220))]) (fun _ => []) := by
  refine FnG.mk' Try.func128 T.nm128 rfl (N := 25) rfl rfl (t := 4) rfl fun B => ?_
  refine Tr.seq ?_
  refine Tr.region ?_
  refine TrL.box1 20 rfl rfl (.of rfl) rfl 5 rfl rfl rfl fun b20 => ?_
  refine TrL.box1 21 rfl rfl (.of rfl) rfl 6 rfl rfl rfl fun b21 => ?_
  refine TrL.box1 22 rfl rfl (.of rfl) rfl 7 rfl rfl rfl fun b22 => ?_
  refine TrL.stepS 8 (.plain rfl (.assign rfl (.of rfl))) rfl rfl ?_
  refine TrL.stepS 9 (.plain rfl (.assign rfl (.of rfl))) rfl rfl ?_
  refine TrL.nil ?_
  refine Fin.keepG (Γ' := [(0, _), (5, _), (6, _), (7, _)]) (.same rfl (.same rfl (.same rfl (.same rfl .nil)))) ?_
  refine Fin.next ?_
  refine Tr.seq ?_
  refine Tr.seq ?_
  refine Tr.region ?_
  refine TrL.stepS 11 (.plain rfl (.move rfl (.of rfl))) rfl rfl ?_
  refine TrL.stepS 12 (.plain rfl (.eqlPN rfl (.of rfl) (.of rfl) Try.underlying94)) rfl rfl ?_
  refine TrL.nil ?_
  refine Fin.keepG (Γ' := [(0, _), (5, _), (6, _), (7, _), (12, _)]) (.same rfl (.same rfl (.same rfl (.same rfl (.same rfl .nil))))) ?_
  refine Fin.next ?_
  refine Tr.cond rfl (fun hb0 => ?_) (fun hb0 => ?_)
  · try simp only [decide_eq_true_eq, decide_eq_false_iff_not, beq_iff_eq, beq_eq_false_iff_ne, bne_iff_ne, bne_eq_false_iff_eq, Bool.and_eq_true, Bool.and_eq_false_iff, Bool.or_eq_true, Bool.or_eq_false_iff, Bool.not_eq_true', Bool.not_eq_false', gt_iff_lt, ge_iff_le, Int.not_lt, Int.not_le, ne_eq, Int.natCast_nonneg, true_and, and_true, Decidable.not_not, not_true_eq_false, not_false_eq_true] at hb0
    cases hb0
  · try simp only [decide_eq_true_eq, decide_eq_false_iff_not, beq_iff_eq, beq_eq_false_iff_ne, bne_iff_ne, bne_eq_false_iff_eq, Bool.and_eq_true, Bool.and_eq_false_iff, Bool.or_eq_true, Bool.or_eq_false_iff, Bool.not_eq_true', Bool.not_eq_false', gt_iff_lt, ge_iff_le, Int.not_lt, Int.not_le, ne_eq, Int.natCast_nonneg, true_and, and_true, Decidable.not_not, not_true_eq_false, not_false_eq_true] at hb0
    refine Tr.skip ?_
    refine Fin.next ?_
    refine Tr.seq ?_
    refine Tr.region ?_
    refine TrL.stepS 13 (.plain rfl (.move rfl (.of rfl))) rfl rfl ?_
    refine TrL.stepS 14 (.plain rfl (.nilCheckP rfl (.of rfl))) rfl rfl ?_
    refine TrL.stepS 15 (.plain rfl (.fieldP rfl (.of rfl) T.fl197_0)) rfl rfl ?_
    refine TrL.stepS 16 (.plain rfl (.loadR 2 rfl (.of rfl) rfl rfl rfl T.sc103)) rfl rfl ?_
    refine TrL.stepS 17 (.plain rfl (.func0 rfl (.cons (.of rfl) (.cons (.of rfl) (.cons (.of rfl) .nil))))) rfl rfl ?_
    refine TrL.stepS 18 (.plain rfl (.callR [3, 21, 20, 22] rfl (F167 (hasP id owner cur) 168 (.pointer (some ⟨b21, 0, none⟩)) (.pointer (some ⟨b20, 0, none⟩)) (.pointer (some ⟨b22, 0, none⟩)) _ _ _ (fun x => F168 b21 b20 b22 id owner cur x) v rows hl) (.cons (.of rfl) (.cons (.of rfl) .nil)) (.cons rfl L.Own.view (.same rfl (.same rfl (.same rfl .nil)))) rfl)) rfl rfl ?_
    refine TrL.stepS 10 (.plain rfl (.assign rfl (.of rfl))) rfl rfl ?_
    refine TrL.nil ?_
    refine Fin.keepG (Γ' := [(7, _), (10, _)]) (.same rfl (.same rfl .nil)) ?_
    refine Fin.next ?_
    refine Tr.seq ?_
    refine Tr.block ?_
    refine Tr.seq ?_
    refine Tr.region ?_
    refine TrL.stepS 20 (.plain rfl (.move rfl (.of rfl))) rfl rfl ?_
    refine TrL.stepS 21 (.plain rfl (.geq rfl (.of rfl) (.of rfl))) rfl rfl ?_
    refine TrL.stepS 19 (.plain rfl (.assign rfl (.of rfl))) rfl rfl ?_
    refine TrL.nil ?_
    refine Fin.keepG (Γ' := [(7, _), (10, _), (19, _)]) (.same rfl (.same rfl (.same rfl .nil))) ?_
    refine Fin.next ?_
    refine Tr.cond rfl (fun hb1 => ?_) (fun hb1 => ?_)
    · try simp only [decide_eq_true_eq, decide_eq_false_iff_not, beq_iff_eq, beq_eq_false_iff_ne, bne_iff_ne, bne_eq_false_iff_eq, Bool.and_eq_true, Bool.and_eq_false_iff, Bool.or_eq_true, Bool.or_eq_false_iff, Bool.not_eq_true', Bool.not_eq_false', gt_iff_lt, ge_iff_le, Int.not_lt, Int.not_le, ne_eq, Int.natCast_nonneg, true_and, and_true, Decidable.not_not, not_true_eq_false, not_false_eq_true] at hb1
      have hlt : ix (hasP id owner cur) rows < rows.length := by
        split at hb1
        · assumption
        · omega
      refine Tr.seq ?_
      refine Tr.region ?_
      refine TrL.stepS 22 (.plain rfl (.move rfl (.of rfl))) rfl rfl ?_
      refine TrL.stepS 8 (.plain rfl (.assign rfl (.of rfl))) rfl rfl ?_
      refine TrL.stepS 9 (.plain rfl (.assign rfl (.of rfl))) rfl rfl ?_
      refine TrL.nil ?_
      refine Fin.keepG (Γ' := [(8, _), (9, _)]) (.same rfl (.same rfl .nil)) ?_
      refine Fin.next ?_
      refine Tr.ret ?_
      refine Fin.blockRet ?_
      refine Fin.thenRet ?_
      refine Fin.retGI 4 rfl (()) [] (rs := [_, _]) rfl (.cons (.tmp rfl) (.cons (.tmp rfl) .nil)) (.cons (L.iv ?_) (.cons (L.iv ?_) .nil)) rfl (.nil) rfl
      · rw [if_pos hlt, if_pos hlt]
      · rw [if_pos hlt]
    · try simp only [decide_eq_true_eq, decide_eq_false_iff_not, beq_iff_eq, beq_eq_false_iff_ne, bne_iff_ne, bne_eq_false_iff_eq, Bool.and_eq_true, Bool.and_eq_false_iff, Bool.or_eq_true, Bool.or_eq_false_iff, Bool.not_eq_true', Bool.not_eq_false', gt_iff_lt, ge_iff_le, Int.not_lt, Int.not_le, ne_eq, Int.natCast_nonneg, true_and, and_true, Decidable.not_not, not_true_eq_false, not_false_eq_true] at hb1
      have hlt : ¬ ix (hasP id owner cur) rows < rows.length := by
        intro h
        rw [if_pos h] at hb1; omega
      refine Tr.seq ?_
      refine Tr.region ?_
      refine TrL.stepS 24 (.plain rfl (.loadB 22 rfl (.of rfl) rfl rfl rfl T.sc4)) rfl rfl ?_
      refine TrL.stepS 23 (.plain rfl (.assign rfl (.of rfl))) rfl rfl ?_
      refine TrL.nil ?_
      refine Fin.keepG (Γ' := [(23, _)]) (.same rfl .nil) ?_
      refine Fin.next ?_
      refine Tr.cond rfl (fun hb2 => ?_) (fun hb2 => ?_)
      · try simp only [decide_eq_true_eq, decide_eq_false_iff_not, beq_iff_eq, beq_eq_false_iff_ne, bne_iff_ne, bne_eq_false_iff_eq, Bool.and_eq_true, Bool.and_eq_false_iff, Bool.or_eq_true, Bool.or_eq_false_iff, Bool.not_eq_true', Bool.not_eq_false', gt_iff_lt, ge_iff_le, Int.not_lt, Int.not_le, ne_eq, Int.natCast_nonneg, true_and, and_true, Decidable.not_not, not_true_eq_false, not_false_eq_true] at hb2
        refine Tr.seq ?_
        refine Tr.region ?_
        refine TrL.stepS 8 (.plain rfl (.assign rfl (.of rfl))) rfl rfl ?_
        refine TrL.stepS 9 (.plain rfl (.assign rfl (.of rfl))) rfl rfl ?_
        refine TrL.nil ?_
        refine Fin.keepG (Γ' := [(8, _), (9, _)]) (.same rfl (.same rfl .nil)) ?_
        refine Fin.next ?_
        refine Tr.ret ?_
        refine Fin.blockRet ?_
        refine Fin.thenRet ?_
        refine Fin.retGI 4 rfl (()) [] (rs := [_, _]) rfl (.cons (.tmp rfl) (.cons (.tmp rfl) .nil)) (.cons (L.iv ?_) (.cons (L.iv ?_) .nil)) rfl (.nil) rfl
        · rw [if_neg hlt]
        · rw [if_neg hlt, if_pos hb2]
      · try simp only [decide_eq_true_eq, decide_eq_false_iff_not, beq_iff_eq, beq_eq_false_iff_ne, bne_iff_ne, bne_eq_false_iff_eq, Bool.and_eq_true, Bool.and_eq_false_iff, Bool.or_eq_true, Bool.or_eq_false_iff, Bool.not_eq_true', Bool.not_eq_false', gt_iff_lt, ge_iff_le, Int.not_lt, Int.not_le, ne_eq, Int.natCast_nonneg, true_and, and_true, Decidable.not_not, not_true_eq_false, not_false_eq_true] at hb2
        refine Tr.skip ?_
        refine Fin.blockNormal ?_
        refine Fin.next ?_
        refine Tr.seq ?_
        refine Tr.region ?_
        refine TrL.stepS 8 (.plain rfl (.assign rfl (.of rfl))) rfl rfl ?_
        refine TrL.stepS 9 (.plain rfl (.assign rfl (.of rfl))) rfl rfl ?_
        refine TrL.nil ?_
        refine Fin.keepG (Γ' := [(8, _), (9, _)]) (.same rfl (.same rfl .nil)) ?_
        refine Fin.next ?_
        refine Tr.ret ?_
        refine Fin.retGI 4 rfl (()) [] (rs := [_, _]) rfl (.cons (.tmp rfl) (.cons (.tmp rfl) .nil)) (.cons (L.iv ?_) (.cons (L.iv ?_) .nil)) rfl (.nil) rfl
        · rw [if_neg hlt]
        · rw [if_neg hlt, if_neg (by simp [hb2])]

end Go.Proofs.Ytemkogoclljhpaa