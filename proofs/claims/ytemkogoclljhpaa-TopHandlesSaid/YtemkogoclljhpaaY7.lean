import Derived.Test.YtemkogoclljhpaaY6
namespace Go.Proofs.Ytemkogoclljhpaa
open Go Go.Proofs.Ytemkogoclljhpaa.L
set_option linter.unusedVariables false
set_option linter.unusedSimpArgs false

namespace T
theorem Y7bd75_0_1 (c0 : Int) (c1 : Int) : Try.prog.built 75 [(0, .int .i64 c0), (1, .int .i64 c1)] = some #[.int .i64 c0, .int .i64 c1] := by kernel_rfl
end T


theorem wrap_u8 (n : Int) : 0 ≤ IntKind.u8.wrap n ∧ IntKind.u8.wrap n ≤ 255 := by
  have e : IntKind.u8.wrap n = n % 256 := by simp [IntKind.wrap, IntKind.bits, IntKind.signed]
  rw [e]; omega
theorem wrap_u8_in {n : Int} (h : 0 ≤ n ∧ n ≤ 255) : IntKind.u8.wrap n = n := wrap_in (Int.le_trans (by decide) h.1) (Int.le_trans h.2 (by decide))
theorem err_T (ts : List Tn) (a b : Int) : errE (esOf ts) a b = if hasT ts a b = true then 0 else 110 := by unfold errE; rw [hasE_T]
theorem err_has {ts : List Tn} {a b : Int} (h : (errE (esOf ts) a b == 0) = true) : hasT ts a b = true := by
  rw [err_T] at h
  cases hh : hasT ts a b with
  | true => rfl
  | false => simp [hh] at h
theorem get_T {ts : List Tn} {a b : Int} (h : hasT ts a b = true) : getE (esOf ts) a b = nodeOf (ts.getD a.toNat zT).2 := by
  unfold getE
  rw [hasE_T, if_pos h]
  obtain ⟨h0, hl, hn, hg⟩ := hasT_get h
  rw [getD_of (esOf_get (getT hl))]
  show nodeAt _ = _
  unfold nodeAt
  rw [if_neg (by omega)]
theorem getE_ok {es : List En} (h : okEs es) (a b : Int) : okN (getE es a b) := by
  unfold getE
  split
  · rename_i hh
    obtain ⟨_, e, he, _⟩ := hasE_get hh
    rw [getD_of he]; exact (h.get he).1
  · exact ⟨by decide, by decide, by decide⟩
theorem has_live {ts : List Tn} {j : Nat} {y : Tn} (h : ts[j]? = some y) (hy : 0 ≤ y.2) : hasT ts j y.1 = true := by
  have hj := getL_len h
  unfold hasT
  rw [Int.toNat_natCast, getD_of h]
  simp [hj, hy]
theorem getD_live {ts : List Tn} {j : Nat} {y : Tn} (h : ts[j]? = some y) : ts.getD (j : Int).toNat zT = y := by rw [Int.toNat_natCast, getD_of h]
theorem usedT_snoc (ts : List Tn) (y : Tn) : usedL (esOf (ts ++ [y])) = usedL (esOf ts) ++ (if 0 ≤ y.2 then [((ts.length : Int), y.1)] else []) := by
  have : esOf (ts ++ [y]) = esOf ts ++ [enOf y] := by unfold esOf; rw [List.map_append]; rfl
  rw [this, usedL_snoc, esOf_len]
  congr 1
  unfold enOf
  by_cases h : 0 ≤ y.2 <;> simp [h]
theorem usedT_at {ts : List Tn} {j : Nat} {y : Tn} (h : ts[j]? = some y) (hy : 0 ≤ y.2) : (usedL (esOf ts))[(usedL (esOf (ts.take j))).length]? = some ((j : Int), y.1) := by
  have := usedL_at (esOf_get h) (show decide (0 ≤ y.2) = true by simpa using hy)
  rw [show esOf (ts.take j) = (esOf ts).take j by unfold esOf; rw [List.map_take]]
  exact this
theorem usedT_len (ts : List Tn) : (usedL (esOf ts)).length ≤ ts.length := by rw [← esOf_len ts]; exact usedL_len _
theorem set_self {α : Type} {l : List α} {i : Nat} {x : α} (h : l[i]? = some x) : l.set i x = l := by
  have hi := getL_len h
  rw [List.getElem?_eq_getElem hi] at h
  cases h
  exact List.set_getElem_self hi
theorem off_map1 (ts : List Tn) (i n : Nat) (z : Int) : (ts.map (·.1)).set i (ts.getD i zT).1 = ts.map (·.1) := by
  rcases Nat.lt_or_ge i ts.length with h | h
  · exact set_self (fst_get (getT h))
  · exact List.set_eq_of_length_le (by simpa using h)
theorem off_fst (ts : List Tn) (x : Int × Int) : (offT ts x).map (·.1) = ts.map (·.1) := by unfold offT; rw [List.map_set]; exact off_map1 ts _ 0 0
theorem free_T1 {m : List (Int × Unit)} {ts : List Tn} (h : FreeM m (esOf ts)) {x : Int × Int} (hh : hasT ts x.1 x.2 = true) : FreeM (freeMs m [x]) (esOf (offT ts x)) := by
  obtain ⟨h0, hl, _⟩ := hasT_get hh
  rw [← off_T ts x hl]
  exact h.step h0 (by rw [esOf_len]; exact hl)
theorem free_T2 {m : List (Int × Unit)} {ts : List Tn} (h : FreeM m (esOf ts)) {x y : Int × Int} (hx : hasT ts x.1 x.2 = true) (hy : hasT ts y.1 y.2 = true) : FreeM (freeMs m [x, y]) (esOf (offT (offT ts x) y)) := by
  obtain ⟨h0, hl, _⟩ := hasT_get hx
  obtain ⟨h0', hl', _⟩ := hasT_get hy
  have h1 := free_T1 h hx
  have hl2 : y.1.toNat < (offT ts x).length := by unfold offT; simpa using hl'
  rw [← off_T _ y hl2]
  exact h1.step h0' (by rw [esOf_len]; exact hl2)
theorem FreeM.put {m : List (Int × Unit)} {ts : List Tn} (h : FreeM m (esOf ts)) (x : Int × Int) {n : Int} (hn : 0 ≤ n) : FreeM m (esOf (putT ts x n)) := by
  unfold putT
  split
  · rename_i hh
    obtain ⟨h0, hl, hn0, hg⟩ := hasT_get hh
    refine ⟨h.1, fun a => ?_⟩
    rw [h.2 a]
    have key : ∀ (i : Nat) (e : En), ((esOf (ts.set x.1.toNat ((ts.getD x.1.toNat zT).1, n)))[i]? = some e ∧ e.2.2 = false) ↔ ((esOf ts)[i]? = some e ∧ e.2.2 = false) := by
      intro i e
      unfold esOf
      rw [List.map_set]
      by_cases hi : i = x.1.toNat
      · subst hi
        rw [List.getElem?_set_self (by simpa using hl), List.getElem?_map, getT hl]
        simp only [Option.map_some, Option.some.injEq]
        unfold enOf
        constructor
        · rintro ⟨rfl, hf⟩; simp at hf; omega
        · rintro ⟨rfl, hf⟩; simp at hf; simp at hn0; omega
      · rw [List.getElem?_set_ne (fun h' => hi h'.symm)]
    exact ⟨fun ⟨i, e, ha, he⟩ => ⟨i, e, ha, (key i e).2 he⟩, fun ⟨i, e, ha, he⟩ => ⟨i, e, ha, (key i e).1 he⟩⟩
  · exact h

/- tidepool/tidepooltop.gripped34 -/
set_option maxRecDepth 100000 in
set_option maxHeartbeats 4000000 in
theorem F17 (hz : List Hg) (hl : hz.length ≤ 60) (hh0 : ∀ q ∈ hz, okG q) : FnP Try.prog 17 [Lst gripR hz] (Tup [is (.int .i64 (runG hz).2.2), is (.bool true)]) := by
  refine FnP.mk' Try.func17 T.nm17 rfl (N := 367) rfl rfl fun B hB hκ => ?_
  refine Tr.seq ?_
  refine Tr.region ?_
  refine TrL.stepS 2 (.plain rfl (.assign rfl (.of rfl))) rfl rfl ?_
  refine TrL.stepS 3 (.plain rfl (.assign rfl (.of rfl))) rfl rfl ?_
  refine TrL.nil ?_
  refine Fin.keepG (Γ' := [(0, _)]) (.same rfl .nil) ?_
  refine Fin.next ?_
  refine Tr.seq ?_
  refine Tr.region ?_
  refine TrL.callG [] [] [20, 21, 22] rfl rfl 34 rfl rfl F43 .nil .nil rfl rfl (fun _ => rfl) fun g0 => ?_
  refine TrL.stepS 4 (.plain rfl (.assign rfl (.of rfl))) rfl rfl ?_
  refine TrL.nil ?_
  refine Fin.keepG (Γ' := [(0, _), (4, _)]) (.same rfl (.same rfl .nil)) ?_
  refine Fin.next ?_
  refine Tr.seq ?_
  refine Tr.region ?_
  refine TrL.allocR 23 (zs := [.slice none 0 0]) rfl rfl (by kernel_rfl) 5 rfl rfl rfl fun b23 => ?_
  refine TrL.nil ?_
  refine Fin.next ?_
  refine Tr.seq ?_
  refine Tr.own0 25 (intR .i64) 3 rfl ?_
  refine Tr.own0 26 (intR .i64) 3 rfl ?_
  refine Tr.own0 27 handR 75 rfl ?_
  refine Tr.region ?_
  refine TrL.allocR 24 (zs := [.slice none 0 0]) rfl rfl (by kernel_rfl) 6 rfl rfl rfl fun b24 => ?_
  refine TrL.nil ?_
  refine Fin.next ?_
  refine Tr.seq ?_
  refine Tr.region ?_
  refine TrL.stepS 7 (.plain rfl (.assign rfl (.of rfl))) rfl rfl ?_
  refine TrL.nil ?_
  refine Fin.next ?_
  refine Tr.seq ?_
  refine Tr.region ?_
  refine TrL.stepS 8 (.plain rfl (.assign rfl (.of rfl))) rfl rfl ?_
  refine TrL.nil ?_
  refine Fin.next ?_
  refine Tr.seq ?_
  refine Tr.region ?_
  refine TrL.stepS 35 (.plain rfl (.func0 rfl (.cons (.of rfl) (.cons (.of rfl) .nil)))) rfl rfl ?_
  refine TrL.stepS 9 (.plain rfl (.assign rfl (.of rfl))) rfl rfl ?_
  refine TrL.nil ?_
  refine Fin.keepG (Γ' := [(0, _), (4, _), (5, _), (6, _), (7, _), (8, _), (9, _)]) (.same rfl (.same rfl (.same rfl (.same rfl (.same rfl (.same rfl (.same rfl .nil))))))) ?_
  refine Fin.next ?_
  refine Tr.seq ?_
  refine Tr.seq ?_
  refine Tr.region ?_
  refine TrL.stepS 36 (.plain rfl (.move rfl (.of rfl))) rfl rfl ?_
  refine TrL.stepS 37 (.plain rfl (.len rfl (.of rfl) Try.underlying38)) rfl rfl ?_
  refine TrL.stepS 38 (.plain rfl (.move rfl (.of rfl))) rfl rfl ?_
  refine TrL.nil ?_
  refine Fin.keepG (Γ' := [(4, _), (5, _), (6, _), (7, _), (8, _), (9, _), (36, _), (37, _), (38, _)]) (.same rfl (.same rfl (.same rfl (.same rfl (.same rfl (.same rfl (.same rfl (.same rfl (.same rfl .nil))))))))) ?_
  refine Fin.next ?_
  refine Tr.block ?_
  refine Tr.loopK (γ := Nat × List Tn × List (Int × Int) × Int × List (Int × Unit) × Value × Value × Value × Value) (Γk := [(4, _), (5, _), (6, _), (9, _), (36, _), (37, _)]) (Mk := []) (.same rfl (.same rfl (.same rfl (.same rfl (.same rfl (.same rfl .nil)))))) .nil (fun gp => gp.1 ≤ hz.length ∧ runG (hz.take gp.1) = (gp.2.1, gp.2.2.1, gp.2.2.2.1) ∧ InvT gp.2.1 gp.2.2.1 gp.2.2.2.1 gp.1 ∧ FreeM gp.2.2.2.2.1 (esOf gp.2.1)) (fun gp => fun r => (20, BlkR g0.1 [is gp.2.2.2.2.2.1, is (.map (some g0.2))] 183) :: (21, Own placeR 185 gp.2.2.2.2.2.1 (esOf gp.2.1)) :: (22, MapR (intK .i64) unitR g0.2 gp.2.2.2.2.1) :: (23, BlkR b23 [is gp.2.2.2.2.2.2.1] 79) :: (24, BlkR b24 [is gp.2.2.2.2.2.2.2.1] 79) :: (25, Own (intR .i64) 3 gp.2.2.2.2.2.2.1 (gp.2.1.map (·.1))) :: (26, Own (intR .i64) 3 gp.2.2.2.2.2.2.2.1 (gp.2.1.map (·.2))) :: (27, Own handR 75 gp.2.2.2.2.2.2.2.2 gp.2.2.1) :: r) (fun gp => fun r => (7, is gp.2.2.2.2.2.2.2.2) :: (8, is (.int .i64 gp.2.2.2.1)) :: (38, is (.int .i64 gp.1)) :: r) (fun gp => hz.length - gp.1) ((0, [], [], 0, [], .slice none 0 0, .slice none 0 0, .slice none 0 0, .slice none 0 0)) ?h0_0 ?hM_0 ?hG_0 ?hl_0
  case h0_0 => exact ⟨Nat.zero_le _, rfl, ⟨by simp, by simp, by simp, Int.le_refl _, Int.le_refl _⟩, ⟨by simp, fun a => by simp [mapGet, esOf]⟩⟩
  case hM_0 => exact (.same rfl (.same rfl (.same rfl (.same rfl (.same rfl (.same rfl (.same rfl (.same rfl .nil))))))))
  case hG_0 => exact (.eq rfl (by first | rfl | (congr 1; first | done | omega | (push_cast; omega) | (push_cast; rfl))) (.eq rfl (by first | rfl | (congr 1; first | done | omega | (push_cast; omega) | (push_cast; rfl))) (.eq rfl (by first | rfl | (congr 1; first | done | omega | (push_cast; omega) | (push_cast; rfl))) (.same rfl (.same rfl (.same rfl (.same rfl (.same rfl (.same rfl .nil)))))))))
  case hl_0 =>
    intro p hI
    obtain ⟨k, ts, told, fd, m, v, vt, vn, w0⟩ := p
    dsimp only at hI ⊢
    refine Tr.seq ?_
    refine Tr.region ?_
    refine TrL.stepS 39 (.plain rfl (.lss rfl (.of rfl) (.of rfl))) rfl rfl ?_
    refine TrL.nil ?_
    refine Fin.next ?_
    refine Tr.seq ?_
    refine Tr.cond rfl (fun hb0 => ?_) (fun hb0 => ?_)
    · try simp only [decide_eq_true_eq, decide_eq_false_iff_not, beq_iff_eq, beq_eq_false_iff_ne, bne_iff_ne, bne_eq_false_iff_eq, Bool.and_eq_true, Bool.and_eq_false_iff, Bool.or_eq_true, Bool.or_eq_false_iff, Bool.not_eq_true', Bool.not_eq_false', gt_iff_lt, ge_iff_le, Int.not_lt, Int.not_le, ne_eq, Int.natCast_nonneg, true_and, and_true, Decidable.not_not, not_true_eq_false, not_false_eq_true] at hb0
      obtain ⟨q, hx⟩ := ex_get (xs := hz) (i := k) (by omega)
      have hok := hh0 q (List.mem_of_getElem? hx)
      have hq0 := hok.1
      have hq1 := hok.2.1
      have hq2 := hok.2.2.1
      have hq3 := hok.2.2.2
      have hrn := hI.2.1
      have hinv := hI.2.2.1
      have hF := hI.2.2.2
      have hlen := hinv.len
      have htl := hinv.tl
      have hf0 := hinv.f0
      have hfk := hinv.fk
      have hoe := hinv.okEs (by omega)
      have hel : (esOf ts).length ≤ 1000 := by rw [esOf_len]; omega
      have hm1 : (ts.map (·.1)).length = ts.length := List.length_map _
      have hm2 : (ts.map (·.2)).length = ts.length := List.length_map _
      obtain ⟨ts2, told2, fd2, hst2⟩ : ∃ a b c, stepG (ts, told, fd) q = (a, b, c) := ⟨_, _, _, rfl⟩
      have hs := hst2
      have hinv2 := hinv.step hok hst2
      have hrn2 : runG (hz.take (k + 1)) = (ts2, told2, fd2) := by rw [take_snoc hx, runG_snoc, hrn, hst2]
      have hoe2 := hinv2.okEs (by omega)
      have hlen2 := hinv2.len
      have hel2 : (esOf ts2).length ≤ 1000 := by rw [esOf_len]; omega
      have hn1 : (ts2.map (·.1)).length = ts2.length := List.length_map _
      have hn2 : (ts2.map (·.2)).length = ts2.length := List.length_map _
      have hal : (allT told).length = told.length + 2 := by simp
      have hal2 : ([] ++ told ++ [((3 : Int), (90 : Int)), (-1, 1)]).length = told.length + 2 := by simp
      obtain ⟨o1, ho1⟩ : ∃ o, o = oneT told q.2.1 := ⟨_, rfl⟩
      obtain ⟨o2, ho2⟩ : ∃ o, o = oneT told q.2.2.1 := ⟨_, rfl⟩
      obtain ⟨i1, hi1, hx1⟩ := oneT_ix told hq1.1
      obtain ⟨i2, hi2, hx2⟩ := oneT_ix told hq2.1
      rw [← ho1] at hx1
      rw [← ho2] at hx2
      have hj1 : q.2.1.tmod (([] ++ told ++ [((3 : Int), (90 : Int)), (-1, 1)]).length : Int) = i1 := hi1
      have hz1 : ([] ++ told ++ [((3 : Int), (90 : Int)), (-1, 1)])[(q.2.1.tmod (([] ++ told ++ [((3 : Int), (90 : Int)), (-1, 1)]).length : Int)).toNat]? = some o1 := by rw [hj1, Int.toNat_natCast]; exact hx1
      have hj2 : q.2.2.1.tmod (([] ++ told ++ [((3 : Int), (90 : Int)), (-1, 1)]).length : Int) = i2 := hi2
      have hz2 : ([] ++ told ++ [((3 : Int), (90 : Int)), (-1, 1)])[(q.2.2.1.tmod (([] ++ told ++ [((3 : Int), (90 : Int)), (-1, 1)]).length : Int)).toNat]? = some o2 := by rw [hj2, Int.toNat_natCast]; exact hx2
      refine Tr.skip ?_
      refine Fin.next ?_
      refine Tr.seq ?_
      refine Tr.block ?_
      refine Tr.seq ?_
      refine Tr.region ?_
      refine TrL.stepS 40 (.plain rfl (.indexE rfl (.of rfl) (.of rfl) Try.underlying38 T.sz88 (by omega) hx)) rfl rfl ?_
      refine TrL.stepS 41 (.plain rfl (.load4 rfl (.of rfl) T.ag88)) rfl rfl ?_
      refine TrL.allocS 28 (zs := [.int .u8 0, .int .u8 0, .int .u8 0, .int .u8 0]) rfl rfl (by kernel_rfl) 11 rfl rfl rfl fun b28 => ?_
      refine TrL.storeW 28 (vs := [_, _, _, _]) rfl rfl rfl (.of rfl) (.of rfl) rfl rfl T.sz88 rfl rfl ?_
      refine TrL.nil ?_
      refine Fin.keepG (Γ' := [(4, _), (5, _), (6, _), (7, _), (8, _), (9, _), (11, _), (36, _), (37, _), (38, _)]) (.same rfl (.same rfl (.same rfl (.same rfl (.same rfl (.same rfl (.same rfl (.same rfl (.same rfl (.same rfl .nil)))))))))) ?_
      refine Fin.next ?_
      refine Tr.seq ?_
      refine Tr.region ?_
      refine TrL.sliceOwn 29 (K := handR) (xs := []) rfl rfl 42 rfl rfl .nil Try.underlying78 T.sz75 T.zb75 rfl (by decide) rfl fun v42 hv42 => ?_
      refine TrL.stepS 43 (.plain rfl (.move rfl (.of rfl))) rfl rfl ?_
      refine TrL.appendV 29 27 (bytes := 16) rfl rfl 44 rfl rfl (.of rfl) rfl rfl (.of rfl) rfl Own.view rfl Try.underlying78 T.sz75 T.el75 (by simp; omega) (by simp only [maxLen, List.length_append, List.length_cons, List.length_nil, List.length_map, List.length_take]; omega) fun v44 => ?_
      refine TrL.stepS 45 (.plain rfl (.build rfl (.cons (.of rfl) (.cons (.of rfl) .nil)) (T.Y7bd75_0_1 _ _))) rfl rfl ?_
      refine TrL.stepS 46 (.plain rfl (.build rfl (.cons (.of rfl) (.cons (.of rfl) .nil)) (T.Y7bd75_0_1 _ _))) rfl rfl ?_
      refine TrL.stepS 47 (.plain rfl (.slice (K := handR) (xs := [_, _]) rfl (.cons (.map (.of rfl) (handR_elem _ _)) (.cons (.map (.of rfl) (handR_elem _ _)) .nil)) Try.underlying78 T.sz75 T.zb75 rfl (by decide))) rfl rfl ?_
      refine TrL.appendS 29 (bytes := 16) rfl rfl 48 rfl rfl (.of rfl) rfl rfl (.of rfl) Try.underlying78 T.el75 (by simp) (by simp; omega) (by simp only [maxLen, List.length_append, List.length_cons, List.length_nil, List.length_map, List.length_take]; omega) fun v48 => ?_
      refine TrL.stepS 12 (.plain rfl (.assign rfl (.of rfl))) rfl rfl ?_
      refine TrL.nil ?_
      refine Fin.keepG (Γ' := [(4, _), (5, _), (6, _), (7, _), (8, _), (9, _), (11, _), (12, _), (36, _), (37, _), (38, _)]) (.same rfl (.same rfl (.same rfl (.same rfl (.same rfl (.same rfl (.same rfl (.same rfl (.same rfl (.same rfl (.same rfl .nil))))))))))) ?_
      refine Fin.freeze 29 12 rfl rfl rfl ?_
      refine Fin.next ?_
      refine Tr.seq ?_
      refine Tr.regionW [([], [], []), ([28], [], []), ([28], [], []), ([], [], []), ([], [], []), ([], [], []), ([], [], []), ([], [], []), ([], [], []), ([], [], []), ([28], [], []), ([28], [], []), ([], [], []), ([], [], []), ([], [], []), ([], [], []), ([], [], []), ([], [], []), ([], [30], [13]), ([], [31], [14]), ([30], [30], [13]), ([31], [31], [14])] T.mixed (by kernel_rfl) (by kernel_rfl) (by kernel_rfl) (by kernel_rfl) ?_
      refine AChain.rd 49 rfl (fun σ => .plain rfl (.move rfl (.of rfl))) rfl rfl (fun _ _ => rfl) (L.Dep.const) ?_
      refine AChain.rd 50 rfl (fun σ => .plain rfl (.fieldP rfl (.of rfl) T.fl88_1)) rfl rfl (fun _ _ => rfl) (L.Dep.const) ?_
      refine AChain.rd 51 rfl (fun σ => .plain rfl (.loadB 28 rfl (.of rfl) rfl rfl rfl T.sc5)) rfl rfl (fun _ _ => rfl) (L.Dep.const) ?_
      first | refine AChain.rd 52 rfl (fun σ => .plain rfl (.convI L.bd_i64 rfl (.of rfl) T.us5 Try.underlying3 (by omega) (by omega))) rfl rfl (fun _ _ => rfl) (L.Dep.const) ?_ | refine AChain.rd 52 rfl (fun σ => .plain rfl (.conv rfl (.of rfl) T.us5 Try.underlying3)) rfl rfl (fun _ _ => rfl) (L.Dep.const) ?_
      refine AChain.rd 53 rfl (fun σ => .plain rfl (.move rfl (.of rfl))) rfl rfl (fun _ _ => rfl) (L.Dep.const) ?_
      refine AChain.rd 54 rfl (fun σ => .plain rfl (.len rfl (.of rfl) Try.underlying78)) rfl rfl (fun _ _ => rfl) (L.Dep.const) ?_
      refine AChain.rd 55 rfl (fun σ => .plain rfl (.rem rfl (.of rfl) (.of rfl) (by omega))) rfl rfl (fun _ _ => rfl) (L.Dep.const) ?_
      refine AChain.rd 56 rfl (fun σ => .plain rfl (.indexE rfl (.of rfl) (.of rfl) Try.underlying78 T.sz75 (by omega) hz1)) rfl rfl (fun _ _ => rfl) (L.Dep.const) ?_
      refine AChain.rd 57 rfl (fun σ => .plain rfl (.load2 rfl (.of rfl) T.ag75)) rfl rfl (fun _ _ => rfl) (L.Dep.const) ?_
      refine AChain.rd 58 rfl (fun σ => .plain rfl (.move rfl (.of rfl))) rfl rfl (fun _ _ => rfl) (L.Dep.const) ?_
      refine AChain.rd 59 rfl (fun σ => .plain rfl (.fieldP rfl (.of rfl) T.fl88_2)) rfl rfl (fun _ _ => rfl) (L.Dep.const) ?_
      refine AChain.rd 60 rfl (fun σ => .plain rfl (.loadB 28 rfl (.of rfl) rfl rfl rfl T.sc5)) rfl rfl (fun _ _ => rfl) (L.Dep.const) ?_
      first | refine AChain.rd 61 rfl (fun σ => .plain rfl (.convI L.bd_i64 rfl (.of rfl) T.us5 Try.underlying3 (by omega) (by omega))) rfl rfl (fun _ _ => rfl) (L.Dep.const) ?_ | refine AChain.rd 61 rfl (fun σ => .plain rfl (.conv rfl (.of rfl) T.us5 Try.underlying3)) rfl rfl (fun _ _ => rfl) (L.Dep.const) ?_
      refine AChain.rd 62 rfl (fun σ => .plain rfl (.move rfl (.of rfl))) rfl rfl (fun _ _ => rfl) (L.Dep.const) ?_
      refine AChain.rd 63 rfl (fun σ => .plain rfl (.len rfl (.of rfl) Try.underlying78)) rfl rfl (fun _ _ => rfl) (L.Dep.const) ?_
      refine AChain.rd 64 rfl (fun σ => .plain rfl (.rem rfl (.of rfl) (.of rfl) (by omega))) rfl rfl (fun _ _ => rfl) (L.Dep.const) ?_
      refine AChain.rd 65 rfl (fun σ => .plain rfl (.indexE rfl (.of rfl) (.of rfl) Try.underlying78 T.sz75 (by omega) hz2)) rfl rfl (fun _ _ => rfl) (L.Dep.const) ?_
      refine AChain.rd 66 rfl (fun σ => .plain rfl (.load2 rfl (.of rfl) T.ag75)) rfl rfl (fun _ _ => rfl) (L.Dep.const) ?_
      refine AChain.allocD 30 13 (zs := [.int .i64 0, .int .i64 0]) rfl rfl rfl rfl rfl rfl (by kernel_rfl) (L.depS (by decide)) (L.depP (by decide)) ?_
      refine AChain.allocD 31 14 (zs := [.int .i64 0, .int .i64 0]) rfl rfl rfl rfl rfl rfl (by kernel_rfl) (L.depS (by decide)) (L.depP (by decide)) ?_
      refine AChain.storeDA (vs := [_, _]) 30 13 rfl rfl rfl rfl rfl (fun σ _ => (.of rfl)) (fun σ _ => (.of rfl)) rfl (fun σ => rfl) T.sz75 rfl (L.depP (by decide)) ?_
      refine AChain.storeDA (vs := [_, _]) 31 14 rfl rfl rfl rfl rfl (fun σ _ => (.of rfl)) (fun σ _ => (.of rfl)) rfl (fun σ => rfl) T.sz75 rfl (L.depP (by decide)) ?_
      refine AChain.nil ?_
      intro s11
      refine Fin.openPB (vs := [_, _]) 30 13 rfl rfl rfl fun b13 hb13_ => ?_
      refine Fin.openPB (vs := [_, _]) 31 14 rfl rfl rfl fun b14 hb14_ => ?_
      refine Fin.keepG (Γ' := [(4, _), (5, _), (6, _), (7, _), (8, _), (9, _), (11, _), (12, _), (13, _), (14, _), (36, _), (37, _), (38, _)]) (.same rfl (.same rfl (.same rfl (.same rfl (.same rfl (.same rfl (.same rfl (.same rfl (.same rfl (.same rfl (.same rfl (.same rfl (.same rfl .nil))))))))))))) ?_
      refine Fin.next ?_
      refine Tr.seqJK (γ := List (Int × Unit) × Value × Value × Value × Value) (Γk := [(4, _), (5, _), (6, _), (9, _), (12, _), (36, _), (37, _), (38, _)]) (Mk := [(28, _), (30, _), (31, _)]) (.same rfl (.same rfl (.same rfl (.same rfl (.same rfl (.same rfl (.same rfl (.same rfl .nil)))))))) (.same rfl (.same rfl (.same rfl .nil))) (fun gp => FreeM gp.1 (esOf ts2)) (fun gp => fun r => (20, BlkR g0.1 [is gp.2.1, is (.map (some g0.2))] 183) :: (21, Own placeR 185 gp.2.1 (esOf ts2)) :: (22, MapR (intK .i64) unitR g0.2 gp.1) :: (23, BlkR b23 [is gp.2.2.1] 79) :: (24, BlkR b24 [is gp.2.2.2.1] 79) :: (25, Own (intR .i64) 3 gp.2.2.1 (ts2.map (·.1))) :: (26, Own (intR .i64) 3 gp.2.2.2.1 (ts2.map (·.2))) :: (27, Own handR 75 gp.2.2.2.2 told2) :: r) (fun gp => fun r => (7, is gp.2.2.2.2) :: (8, is (.int .i64 fd2)) :: r) ?jx51 ?jk51
      case jx51 =>
        refine Tr.seq ?_
        refine Tr.region ?_
        refine TrL.stepS 67 (.plain rfl (.fieldP rfl (.of rfl) T.fl88_0)) rfl rfl ?_
        refine TrL.stepS 68 (.plain rfl (.loadB 28 rfl (.of rfl) rfl rfl rfl T.sc5)) rfl rfl ?_
        refine TrL.stepS 69 (.plain rfl (OpM.eqI (n := q.1 % 6) (.rem rfl (.of rfl) (.of rfl) (by decide)) (Int.tmod_eq_emod_of_nonneg hq0.1))) rfl rfl ?_
        refine TrL.nil ?_
        refine Fin.keepG (Γ' := [(4, _), (5, _), (6, _), (7, _), (8, _), (9, _), (11, _), (12, _), (13, _), (14, _), (36, _), (37, _), (38, _), (69, _)]) (.same rfl (.same rfl (.same rfl (.same rfl (.same rfl (.same rfl (.same rfl (.same rfl (.same rfl (.same rfl (.same rfl (.same rfl (.same rfl (.same rfl .nil)))))))))))))) ?_
        refine Fin.next ?_
        refine Tr.block ?_
        refine Tr.seqJK (γ := Unit) (Γk := [(4, _), (5, _), (6, _), (7, _), (8, _), (9, _), (11, _), (12, _), (13, _), (14, _), (36, _), (37, _), (38, _), (69, _)]) (Mk := [(20, _), (21, _), (22, _), (23, _), (24, _), (25, _), (26, _), (27, _), (28, _), (30, _), (31, _)]) (.same rfl (.same rfl (.same rfl (.same rfl (.same rfl (.same rfl (.same rfl (.same rfl (.same rfl (.same rfl (.same rfl (.same rfl (.same rfl (.same rfl .nil)))))))))))))) (.same rfl (.same rfl (.same rfl (.same rfl (.same rfl (.same rfl (.same rfl (.same rfl (.same rfl (.same rfl (.same rfl .nil))))))))))) (fun _ => True) (fun _ => fun r => r) (fun _ => fun r => (112, is (.bool (decide (q.1 % 6 ≤ 1)))) :: r) ?jxc2 ?jkc2
        case jxc2 =>
          refine Tr.seq ?_
          refine Tr.region ?_
          refine TrL.stepS 113 (.plain rfl (.eql rfl (.of rfl) (.of rfl))) rfl rfl ?_
          refine TrL.stepS 112 (.plain rfl (.assign rfl (.of rfl))) rfl rfl ?_
          refine TrL.nil ?_
          refine Fin.keepG (Γ' := [(4, _), (5, _), (6, _), (7, _), (8, _), (9, _), (11, _), (12, _), (13, _), (14, _), (36, _), (37, _), (38, _), (69, _), (112, _)]) (.same rfl (.same rfl (.same rfl (.same rfl (.same rfl (.same rfl (.same rfl (.same rfl (.same rfl (.same rfl (.same rfl (.same rfl (.same rfl (.same rfl (.same rfl .nil))))))))))))))) ?_
          refine Fin.next ?_
          refine Tr.cond rfl (fun hb1 => ?_) (fun hb1 => ?_)
          · try simp only [decide_eq_true_eq, decide_eq_false_iff_not, beq_iff_eq, beq_eq_false_iff_ne, bne_iff_ne, bne_eq_false_iff_eq, Bool.and_eq_true, Bool.and_eq_false_iff, Bool.or_eq_true, Bool.or_eq_false_iff, Bool.not_eq_true', Bool.not_eq_false', gt_iff_lt, ge_iff_le, Int.not_lt, Int.not_le, ne_eq, Int.natCast_nonneg, true_and, and_true, Decidable.not_not, not_true_eq_false, not_false_eq_true] at hb1
            refine Tr.skip ?_
            exact Fin.reach (()) (trivial) (.same rfl (.same rfl (.same rfl (.same rfl (.same rfl (.same rfl (.same rfl (.same rfl (.same rfl (.same rfl (.same rfl .nil))))))))))) (.eq rfl (by congr 1; rw [Bool.eq_iff_iff]; simp; omega) (.same rfl (.same rfl (.same rfl (.same rfl (.same rfl (.same rfl (.same rfl (.same rfl (.same rfl (.same rfl (.same rfl (.same rfl (.same rfl (.same rfl .nil)))))))))))))))
          · try simp only [decide_eq_true_eq, decide_eq_false_iff_not, beq_iff_eq, beq_eq_false_iff_ne, bne_iff_ne, bne_eq_false_iff_eq, Bool.and_eq_true, Bool.and_eq_false_iff, Bool.or_eq_true, Bool.or_eq_false_iff, Bool.not_eq_true', Bool.not_eq_false', gt_iff_lt, ge_iff_le, Int.not_lt, Int.not_le, ne_eq, Int.natCast_nonneg, true_and, and_true, Decidable.not_not, not_true_eq_false, not_false_eq_true] at hb1
            refine Tr.region ?_
            refine TrL.stepS 114 (.plain rfl (.eql rfl (.of rfl) (.of rfl))) rfl rfl ?_
            refine TrL.stepS 112 (.plain rfl (.assign rfl (.of rfl))) rfl rfl ?_
            refine TrL.nil ?_
            refine Fin.keepG (Γ' := [(4, _), (5, _), (6, _), (7, _), (8, _), (9, _), (11, _), (12, _), (13, _), (14, _), (36, _), (37, _), (38, _), (69, _), (112, _)]) (.same rfl (.same rfl (.same rfl (.same rfl (.same rfl (.same rfl (.same rfl (.same rfl (.same rfl (.same rfl (.same rfl (.same rfl (.same rfl (.same rfl (.same rfl .nil))))))))))))))) ?_
            exact Fin.reach (()) (trivial) (.same rfl (.same rfl (.same rfl (.same rfl (.same rfl (.same rfl (.same rfl (.same rfl (.same rfl (.same rfl (.same rfl .nil))))))))))) (.eq rfl (by congr 1; rw [Bool.eq_iff_iff]; simp; omega) (.same rfl (.same rfl (.same rfl (.same rfl (.same rfl (.same rfl (.same rfl (.same rfl (.same rfl (.same rfl (.same rfl (.same rfl (.same rfl (.same rfl .nil)))))))))))))))
        case jkc2 =>
          intro _ _
          refine Tr.cond rfl (fun hb2 => ?_) (fun hb2 => ?_)
          · try simp only [decide_eq_true_eq, decide_eq_false_iff_not, beq_iff_eq, beq_eq_false_iff_ne, bne_iff_ne, bne_eq_false_iff_eq, Bool.and_eq_true, Bool.and_eq_false_iff, Bool.or_eq_true, Bool.or_eq_false_iff, Bool.not_eq_true', Bool.not_eq_false', gt_iff_lt, ge_iff_le, Int.not_lt, Int.not_le, ne_eq, Int.natCast_nonneg, true_and, and_true, Decidable.not_not, not_true_eq_false, not_false_eq_true] at hb2
            obtain ⟨p1, hp1⟩ := extT_get ts
            have hgT : genT ts = p1.1 + 1 := by unfold genT; rw [getD_of hp1]
            have hpb := hinv.ext p1 (List.mem_of_getElem? hp1)
            have hfl := frT_le ts
            obtain ⟨rfl, rfl, rfl⟩ : makeT ts q.2.2.2 = ts2 ∧ told ++ [(((frT ts : Nat) : Int), genT ts)] = told2 ∧ fd = fd2 := by
              have hs' := hs
              unfold stepG at hs'
              dsimp only at hs'
              rw [if_pos (show q.1 % 6 ≤ 1 by omega)] at hs'
              cases hs'; exact ⟨rfl, rfl, rfl⟩
            refine Tr.seq ?_
            refine Tr.region ?_
            refine TrL.stepS 15 (.plain rfl (.assign rfl (.of rfl))) rfl rfl ?_
            refine TrL.nil ?_
            refine Fin.keepG (Γ' := [(4, _), (5, _), (6, _), (7, _), (8, _), (9, _), (11, _), (12, _), (15, _), (36, _), (37, _), (38, _)]) (.same rfl (.same rfl (.same rfl (.same rfl (.same rfl (.same rfl (.same rfl (.same rfl (.same rfl (.same rfl (.same rfl (.same rfl .nil)))))))))))) ?_
            refine Fin.next ?_
            refine Tr.seq ?_
            refine Tr.block ?_
            refine Tr.loopK (γ := Nat) (Γk := [(4, _), (5, _), (6, _), (7, _), (8, _), (9, _), (11, _), (12, _), (36, _), (37, _), (38, _)]) (Mk := [(20, _), (21, _), (22, _), (23, _), (24, _), (25, _), (26, _), (27, _), (28, _), (30, _), (31, _)]) (.same rfl (.same rfl (.same rfl (.same rfl (.same rfl (.same rfl (.same rfl (.same rfl (.same rfl (.same rfl (.same rfl .nil))))))))))) (.same rfl (.same rfl (.same rfl (.same rfl (.same rfl (.same rfl (.same rfl (.same rfl (.same rfl (.same rfl (.same rfl .nil))))))))))) (fun i => i ≤ ts.length ∧ ∀ y ∈ ts.take i, 0 ≤ y.2) (fun i => fun r => r) (fun i => fun r => (15, is (.int .i64 (i : Int))) :: r) (fun i => ts.length - i) (0) ?h0_1 ?hM_1 ?hG_1 ?hl_1
            case h0_1 => exact ⟨Nat.zero_le _, by simp⟩
            case hM_1 => exact (.same rfl (.same rfl (.same rfl (.same rfl (.same rfl (.same rfl (.same rfl (.same rfl (.same rfl (.same rfl (.same rfl .nil)))))))))))
            case hG_1 => exact (.eq rfl (by rfl) (.same rfl (.same rfl (.same rfl (.same rfl (.same rfl (.same rfl (.same rfl (.same rfl (.same rfl (.same rfl (.same rfl .nil))))))))))))
            case hl_1 =>
              intro i hJ
              refine Tr.seq ?_
              refine Tr.seq ?_
              refine Tr.region ?_
              refine TrL.stepS 115 (.plain rfl (.move rfl (.of rfl))) rfl rfl ?_
              refine TrL.stepS 116 (.plain rfl (.loadR 23 rfl (.of rfl) rfl rfl rfl T.sc79)) rfl rfl ?_
              refine TrL.stepS 117 (.plain rfl (.lenV 25 rfl (.of rfl) rfl Own.view rfl Try.underlying79)) rfl rfl ?_
              refine TrL.stepS 118 (.plain rfl (.lss rfl (.of rfl) (.of rfl))) rfl rfl ?_
              refine TrL.stepS 119 (.plain rfl (.move rfl (.of rfl))) rfl rfl ?_
              refine TrL.stepS 120 (.guarded rfl rfl rfl fun hg => .loadR 24 rfl (.of rfl) rfl rfl rfl T.sc79) rfl rfl ?_
              refine TrL.stepS 121 (.guarded rfl rfl rfl fun hg => .move rfl (.of rfl)) rfl rfl ?_
              refine TrL.stepS 122 (.guarded rfl rfl rfl fun hg => .indexN 26 (i) rfl (.cond rfl hg) (.cond rfl hg) rfl Own.view rfl Try.underlying79 T.sz3 (rfl) (snd_get (getT (by have h' := hg; simp at h'; omega)))) rfl rfl ?_
              refine TrL.stepS 123 (.guarded rfl rfl rfl fun hg => .loadW 26 (i) 0 rfl (.cond rfl hg) rfl Own.view rfl (snd_get (getT (by have h' := hg; simp at h'; omega))) rfl T.sc3) rfl rfl ?_
              refine TrL.stepS 124 (.guarded rfl rfl rfl fun hg => .geq rfl (.cond rfl hg) (.of rfl)) rfl rfl ?_
              refine TrL.stepS 125 (.plain rfl (.and rfl (.of rfl) (.cond rfl fun h => h))) rfl rfl ?_
              refine TrL.nil ?_
              refine Fin.keepG (Γ' := [(4, _), (5, _), (6, _), (7, _), (8, _), (9, _), (11, _), (12, _), (15, _), (36, _), (37, _), (38, _), (125, _)]) (.same rfl (.same rfl (.same rfl (.same rfl (.same rfl (.same rfl (.same rfl (.same rfl (.same rfl (.same rfl (.same rfl (.same rfl (.same rfl .nil))))))))))))) ?_
              refine Fin.next ?_
              refine Tr.cond rfl (fun hb3 => ?_) (fun hb3 => ?_)
              · try simp only [decide_eq_true_eq, decide_eq_false_iff_not, beq_iff_eq, beq_eq_false_iff_ne, bne_iff_ne, bne_eq_false_iff_eq, Bool.and_eq_true, Bool.and_eq_false_iff, Bool.or_eq_true, Bool.or_eq_false_iff, Bool.not_eq_true', Bool.not_eq_false', gt_iff_lt, ge_iff_le, Int.not_lt, Int.not_le, ne_eq, Int.natCast_nonneg, true_and, and_true, Decidable.not_not, not_true_eq_false, not_false_eq_true] at hb3
                have hi3 : i < ts.length := by have h' := hb3; simp at h'; omega
                have hy := getT hi3
                have hy2 : 0 ≤ (ts.getD i zT).2 := by have h' := hb3; simp at h'; omega
                refine Tr.skip ?_
                refine Fin.next ?_
                refine Tr.block ?_
                refine Tr.region ?_
                refine TrL.stepS 126 (.plain rfl (.move rfl (.of rfl))) rfl rfl ?_
                refine TrL.stepS 127 (.plain rfl (.addI L.bd_i64 rfl (.of rfl) (.of rfl) (by omega) (by omega))) rfl rfl ?_
                refine TrL.stepS 15 (.plain rfl (.assign rfl (.of rfl))) rfl rfl ?_
                refine TrL.nil ?_
                refine Fin.keepG (Γ' := [(4, _), (5, _), (6, _), (7, _), (8, _), (9, _), (11, _), (12, _), (15, _), (36, _), (37, _), (38, _)]) (.same rfl (.same rfl (.same rfl (.same rfl (.same rfl (.same rfl (.same rfl (.same rfl (.same rfl (.same rfl (.same rfl (.same rfl .nil)))))))))))) ?_
                refine Fin.blockNormal ?_
                exact Fin.again (i + 1) (⟨by omega, fun z hz' => by rw [take_snoc hy, List.mem_append] at hz'; rcases hz' with hz' | hz'; exact hJ.2 z hz'; simp only [List.mem_singleton] at hz'; subst hz'; exact hy2⟩) (by omega) (.same rfl (.same rfl (.same rfl (.same rfl (.same rfl (.same rfl (.same rfl (.same rfl (.same rfl (.same rfl (.same rfl .nil))))))))))) (.eq rfl (by first | rfl | (congr 1; first | done | omega | (push_cast; omega) | (push_cast; rfl))) (.same rfl (.same rfl (.same rfl (.same rfl (.same rfl (.same rfl (.same rfl (.same rfl (.same rfl (.same rfl (.same rfl .nil))))))))))))
              · try simp only [decide_eq_true_eq, decide_eq_false_iff_not, beq_iff_eq, beq_eq_false_iff_ne, bne_iff_ne, bne_eq_false_iff_eq, Bool.and_eq_true, Bool.and_eq_false_iff, Bool.or_eq_true, Bool.or_eq_false_iff, Bool.not_eq_true', Bool.not_eq_false', gt_iff_lt, ge_iff_le, Int.not_lt, Int.not_le, ne_eq, Int.natCast_nonneg, true_and, and_true, Decidable.not_not, not_true_eq_false, not_false_eq_true] at hb3
                have hfr : frT ts = i := by
                  rcases Nat.lt_or_ge i ts.length with hi3 | hi3
                  · exact frT_here (getT hi3) (by have h' := hb3; simp at h'; omega) hJ.2
                  · rw [frT_none (fun y hy => hJ.2 y (by rwa [List.take_of_length_le hi3]))]; omega
                refine Tr.exit ?_
                refine Fin.thenExit ?_
                refine Fin.thenExit ?_
                refine Fin.blockOut ?_
                refine Fin.next ?_
                refine Tr.seqJK (γ := Value × Value) (Γk := [(4, _), (5, _), (6, _), (7, _), (8, _), (9, _), (11, _), (12, _), (15, _), (36, _), (37, _), (38, _)]) (Mk := [(20, _), (21, _), (22, _), (27, _), (28, _), (30, _), (31, _)]) (.same rfl (.same rfl (.same rfl (.same rfl (.same rfl (.same rfl (.same rfl (.same rfl (.same rfl (.same rfl (.same rfl (.same rfl .nil)))))))))))) (.same rfl (.same rfl (.same rfl (.same rfl (.same rfl (.same rfl (.same rfl .nil))))))) (fun gp => True) (fun gp => fun r => (23, BlkR b23 [is gp.1] 79) :: (24, BlkR b24 [is gp.2] 79) :: (25, Own (intR .i64) 3 gp.1 ((extT ts).map (·.1))) :: (26, Own (intR .i64) 3 gp.2 ((extT ts).map (·.2))) :: r) (fun gp => fun r => r) ?jx27 ?jk27
                case jx27 =>
                  refine Tr.seq ?_
                  refine Tr.region ?_
                  refine TrL.stepS 128 (.plain rfl (.move rfl (.of rfl))) rfl rfl ?_
                  refine TrL.stepS 129 (.plain rfl (.loadR 23 rfl (.of rfl) rfl rfl rfl T.sc79)) rfl rfl ?_
                  refine TrL.stepS 130 (.plain rfl (.lenV 25 rfl (.of rfl) rfl Own.view rfl Try.underlying79)) rfl rfl ?_
                  refine TrL.stepS 131 (.plain rfl (.eql rfl (.of rfl) (.of rfl))) rfl rfl ?_
                  refine TrL.nil ?_
                  refine Fin.keepG (Γ' := [(4, _), (5, _), (6, _), (7, _), (8, _), (9, _), (11, _), (12, _), (15, _), (36, _), (37, _), (38, _), (131, _)]) (.same rfl (.same rfl (.same rfl (.same rfl (.same rfl (.same rfl (.same rfl (.same rfl (.same rfl (.same rfl (.same rfl (.same rfl (.same rfl .nil))))))))))))) ?_
                  refine Fin.next ?_
                  refine Tr.cond rfl (fun hb4 => ?_) (fun hb4 => ?_)
                  · try simp only [decide_eq_true_eq, decide_eq_false_iff_not, beq_iff_eq, beq_eq_false_iff_ne, bne_iff_ne, bne_eq_false_iff_eq, Bool.and_eq_true, Bool.and_eq_false_iff, Bool.or_eq_true, Bool.or_eq_false_iff, Bool.not_eq_true', Bool.not_eq_false', gt_iff_lt, ge_iff_le, Int.not_lt, Int.not_le, ne_eq, Int.natCast_nonneg, true_and, and_true, Decidable.not_not, not_true_eq_false, not_false_eq_true] at hb4
                    refine Tr.regionW [([23], [], []), ([], [], []), ([25], [25], [134]), ([24], [], []), ([], [], []), ([26], [26], [137]), ([23, 25], [23], [134]), ([24, 26], [24], [137])] T.mixed (by kernel_rfl) (by kernel_rfl) (by kernel_rfl) (by kernel_rfl) ?_
                    refine AChain.rd 132 rfl (fun σ => .plain rfl (.loadR 23 rfl (.of rfl) rfl rfl rfl T.sc79)) rfl rfl (fun _ _ => rfl) (L.Dep.const) ?_
                    refine AChain.rd 133 rfl (fun σ => .plain rfl (.slice (K := (intR .i64)) (xs := [_]) rfl (.cons (.map (.of rfl) (intR_elem _)) .nil) Try.underlying79 T.sz3 T.zb3 rfl (by decide))) rfl rfl (fun _ _ => rfl) (L.Dep.const) ?_
                    refine AChain.appendD 25 134 (bytes := 8) rfl rfl rfl rfl rfl rfl (fun σ => (.of rfl)) (fun σ => rfl) (fun σ => (.of rfl)) Try.underlying79 T.sz3 T.el3 (by simp; omega) (by simp only [maxLen, List.length_append, List.length_cons, List.length_nil, List.length_map, List.length_take]; omega) (L.depS (by decide)) (L.depO (by decide)) ?_
                    refine AChain.rd 135 rfl (fun σ => .plain rfl (.loadR 24 rfl (.of rfl) rfl rfl rfl T.sc79)) rfl rfl (fun _ _ => rfl) (L.Dep.const) ?_
                    refine AChain.rd 136 rfl (fun σ => .plain rfl (.slice (K := (intR .i64)) (xs := [_]) rfl (.cons (.map (.of rfl) (intR_elem _)) .nil) Try.underlying79 T.sz3 T.zb3 rfl (by decide))) rfl rfl (fun _ _ => rfl) (L.Dep.const) ?_
                    refine AChain.appendD 26 137 (bytes := 8) rfl rfl rfl rfl rfl rfl (fun σ => (.of rfl)) (fun σ => rfl) (fun σ => (.of rfl)) Try.underlying79 T.sz3 T.el3 (by simp; omega) (by simp only [maxLen, List.length_append, List.length_cons, List.length_nil, List.length_map, List.length_take]; omega) (L.depS (by decide)) (L.depO (by decide)) ?_
                    refine AChain.storeBO 23 25 rfl rfl rfl rfl rfl rfl (fun σ => (.of rfl)) (fun σ => (.of rfl)) (fun σ => rfl) (fun σ => rfl) T.sz79 rfl (L.depB fun σ σ' h => by simp only [h 134 (by decide)]) ?_
                    refine AChain.storeBO 24 26 rfl rfl rfl rfl rfl rfl (fun σ => (.of rfl)) (fun σ => (.of rfl)) (fun σ => rfl) (fun σ => rfl) T.sz79 rfl (L.depB fun σ σ' h => by simp only [h 137 (by decide)]) ?_
                    refine AChain.nil ?_
                    intro s26
                    refine Fin.keepG (Γ' := [(4, _), (5, _), (6, _), (7, _), (8, _), (9, _), (11, _), (12, _), (15, _), (36, _), (37, _), (38, _)]) (.same rfl (.same rfl (.same rfl (.same rfl (.same rfl (.same rfl (.same rfl (.same rfl (.same rfl (.same rfl (.same rfl (.same rfl .nil)))))))))))) ?_
                    exact Fin.reach ((s26 134, s26 137)) (trivial) (.same rfl (.same rfl (.cons rfl (fun F L w h => by unfold extT; rw [if_pos (by omega), List.map_append]; exact h) (.cons rfl (fun F L w h => by unfold extT; rw [if_pos (by omega), List.map_append]; exact h) (.same rfl (.same rfl (.same rfl (.same rfl (.same rfl (.same rfl (.same rfl .nil))))))))))) (.same rfl (.same rfl (.same rfl (.same rfl (.same rfl (.same rfl (.same rfl (.same rfl (.same rfl (.same rfl (.same rfl (.same rfl .nil))))))))))))
                  · try simp only [decide_eq_true_eq, decide_eq_false_iff_not, beq_iff_eq, beq_eq_false_iff_ne, bne_iff_ne, bne_eq_false_iff_eq, Bool.and_eq_true, Bool.and_eq_false_iff, Bool.or_eq_true, Bool.or_eq_false_iff, Bool.not_eq_true', Bool.not_eq_false', gt_iff_lt, ge_iff_le, Int.not_lt, Int.not_le, ne_eq, Int.natCast_nonneg, true_and, and_true, Decidable.not_not, not_true_eq_false, not_false_eq_true] at hb4
                    refine Tr.skip ?_
                    exact Fin.reach ((vt, vn)) (trivial) (.same rfl (.same rfl (.cons rfl (fun F L w h => by unfold extT; rw [if_neg (by omega)]; exact h) (.cons rfl (fun F L w h => by unfold extT; rw [if_neg (by omega)]; exact h) (.same rfl (.same rfl (.same rfl (.same rfl (.same rfl (.same rfl (.same rfl .nil))))))))))) (.same rfl (.same rfl (.same rfl (.same rfl (.same rfl (.same rfl (.same rfl (.same rfl (.same rfl (.same rfl (.same rfl (.same rfl .nil))))))))))))
                case jk27 =>
                  intro p hI
                  obtain ⟨vt1, vn1⟩ := p
                  dsimp only at hI ⊢
                  refine Tr.seq ?_
                  refine Tr.regionW [([23], [], []), ([], [], []), ([24], [], []), ([], [], []), ([23], [], []), ([], [], []), ([25], [], []), ([25], [], []), ([], [], []), ([28], [], []), ([28], [], []), ([], [], []), ([25], [], []), ([25], [25], []), ([26], [], []), ([26], [26], [])] T.mixed (by kernel_rfl) (by kernel_rfl) (by kernel_rfl) (by kernel_rfl) ?_
                  refine AChain.rd 138 rfl (fun σ => .plain rfl (.loadR 23 rfl (.of rfl) rfl rfl rfl T.sc79)) rfl rfl (fun _ _ => rfl) (L.Dep.const) ?_
                  refine AChain.rd 139 rfl (fun σ => .plain rfl (.move rfl (.of rfl))) rfl rfl (fun _ _ => rfl) (L.Dep.const) ?_
                  refine AChain.rd 140 rfl (fun σ => .plain rfl (.loadR 24 rfl (.of rfl) rfl rfl rfl T.sc79)) rfl rfl (fun _ _ => rfl) (L.Dep.const) ?_
                  refine AChain.rd 141 rfl (fun σ => .plain rfl (.move rfl (.of rfl))) rfl rfl (fun _ _ => rfl) (L.Dep.const) ?_
                  refine AChain.rd 142 rfl (fun σ => .plain rfl (.loadR 23 rfl (.of rfl) rfl rfl rfl T.sc79)) rfl rfl (fun _ _ => rfl) (L.Dep.const) ?_
                  refine AChain.rd 143 rfl (fun σ => .plain rfl (.move rfl (.of rfl))) rfl rfl (fun _ _ => rfl) (L.Dep.const) ?_
                  refine AChain.rd 144 rfl (fun σ => .plain rfl (.indexN 25 (frT ts) rfl (.of rfl) (.of rfl) rfl Own.view rfl Try.underlying79 T.sz3 (by omega) (fst_get hp1))) rfl rfl (fun _ _ => rfl) (L.Dep.const) ?_
                  refine AChain.rd 145 rfl (fun σ => .plain rfl (.loadW 25 (frT ts) 0 rfl (.of rfl) rfl Own.view rfl (fst_get hp1) rfl T.sc3)) rfl rfl (fun _ _ => rfl) (L.Dep.const) ?_
                  refine AChain.rd 146 rfl (fun σ => .plain rfl (.addI L.bd_i64 rfl (.of rfl) (.of rfl) (by omega) (by omega))) rfl rfl (fun _ _ => rfl) (L.Dep.const) ?_
                  refine AChain.rd 147 rfl (fun σ => .plain rfl (.fieldP rfl (.of rfl) T.fl88_3)) rfl rfl (fun _ _ => rfl) (L.Dep.const) ?_
                  refine AChain.rd 148 rfl (fun σ => .plain rfl (.loadB 28 rfl (.of rfl) rfl rfl rfl T.sc5)) rfl rfl (fun _ _ => rfl) (L.Dep.const) ?_
                  first | refine AChain.rd 149 rfl (fun σ => .plain rfl (.convI L.bd_i64 rfl (.of rfl) T.us5 Try.underlying3 (by omega) (by omega))) rfl rfl (fun _ _ => rfl) (L.Dep.const) ?_ | refine AChain.rd 149 rfl (fun σ => .plain rfl (.conv rfl (.of rfl) T.us5 Try.underlying3)) rfl rfl (fun _ _ => rfl) (L.Dep.const) ?_
                  refine AChain.rd 150 rfl (fun σ => .plain rfl (.indexN 25 (frT ts) rfl (.of rfl) (.of rfl) rfl Own.view rfl Try.underlying79 T.sz3 (by omega) (fst_get hp1))) rfl rfl (fun _ _ => rfl) (L.Dep.const) ?_
                  refine AChain.wr1 25 rfl rfl rfl rfl (fun w0 κ0 σ => TrL.storeO 25 (frT ts) 0 (z' := (p1.1 + 1)) rfl rfl rfl (.of rfl) (.of rfl) (L.hR1 (L.h1is rfl rfl)) rfl rfl (fst_get hp1) rfl rfl T.sz3 (TrL.done0 (.free rfl .nil))) ?_
                  refine AChain.rd 151 rfl (fun σ => .plain rfl (.indexN 26 (frT ts) rfl (.of rfl) (.of rfl) rfl Own.view rfl Try.underlying79 T.sz3 (by omega) (snd_get hp1))) rfl rfl (fun _ _ => rfl) (L.Dep.const) ?_
                  refine AChain.wr1 26 rfl rfl rfl rfl (fun w0 κ0 σ => TrL.storeO 26 (frT ts) 0 (z' := q.2.2.2) rfl rfl rfl (.of rfl) (.of rfl) (L.hR1 (L.h1is rfl rfl)) rfl rfl (snd_get hp1) rfl rfl T.sz3 (TrL.done0 (.free rfl .nil))) ?_
                  refine AChain.nil ?_
                  intro s27
                  refine Fin.keepG (Γ' := [(4, _), (5, _), (6, _), (7, _), (8, _), (9, _), (11, _), (12, _), (15, _), (36, _), (37, _), (38, _)]) (.same rfl (.same rfl (.same rfl (.same rfl (.same rfl (.same rfl (.same rfl (.same rfl (.same rfl (.same rfl (.same rfl (.same rfl .nil)))))))))))) ?_
                  refine Fin.next ?_
                  refine Tr.seq ?_
                  refine Tr.region ?_
                  refine TrL.stepS 152 (.plain rfl (.fieldP rfl (.of rfl) T.fl88_3)) rfl rfl ?_
                  refine TrL.stepS 153 (.plain rfl (.loadB 28 rfl (.of rfl) rfl rfl rfl T.sc5)) rfl rfl ?_
                  refine TrL.callG [] [] [35] rfl rfl 154 rfl rfl (F50b q.2.2.2 hq3) (.cons (.of rfl) .nil) .nil rfl rfl (fun _ => rfl) fun vv => ?_
                  refine TrL.allocR 32 (zs := [.bool false, .slice none 0 0, .slice none 0 0, .slice none 0 0]) rfl rfl (by kernel_rfl) 16 rfl rfl rfl fun b32 => ?_
                  refine TrL.memP 35 rfl rfl own_form fun hf => ?_
                  refine TrL.storeRW 32 rfl rfl rfl (.of rfl) (.of rfl) rfl rfl ((L.all1_cons (L.h1is rfl rfl) (L.all1_cons L.h1lst (L.all1_cons L.h1lst (L.all1_cons (L.h1sl hf) L.all1_nil))))) T.sz81 rfl ?_
                  refine TrL.nil ?_
                  refine Fin.keepG (Γ' := [(4, _), (5, _), (6, _), (7, _), (8, _), (9, _), (12, _), (15, _), (16, _), (36, _), (37, _), (38, _)]) (.same rfl (.same rfl (.same rfl (.same rfl (.same rfl (.same rfl (.same rfl (.same rfl (.same rfl (.same rfl (.same rfl (.same rfl .nil)))))))))))) ?_
                  refine Fin.next ?_
                  refine Tr.seq ?_
                  refine Tr.region ?_
                  refine TrL.stepS 155 (.plain rfl (.move rfl (.of rfl))) rfl rfl ?_
                  refine TrL.stepS 156 (.plain rfl (.loadRN 32 (k := 4) rfl (.of rfl) rfl rfl rfl T.ag81 rfl)) rfl rfl ?_
                  refine TrL.callG [35] [20, 21, 22] [20, 21, 22] rfl rfl 157 rfl rfl (F44 g0.1 v g0.2 m (esOf ts) hF hoe hel (nodeOf q.2.2.2) (nodeOf_ok _) vv) (.cons (.of rfl) (.cons (.of rfl) .nil)) (.cons rfl L.Own.view (.same rfl (.same rfl (.same rfl .nil)))) rfl rfl (fun _ => rfl) fun v2 => ?_
                  refine TrL.allocS 33 (zs := [.int .i64 0, .int .i64 0]) rfl rfl (by kernel_rfl) 17 rfl rfl rfl fun b33 => ?_
                  refine TrL.storeW 33 (vs := [_, _]) rfl rfl rfl (.of rfl) (.of rfl) rfl rfl T.sz75 rfl rfl ?_
                  refine TrL.nil ?_
                  refine Fin.keepG (Γ' := [(4, _), (5, _), (6, _), (7, _), (8, _), (9, _), (12, _), (15, _), (16, _), (17, _), (36, _), (37, _), (38, _)]) (.same rfl (.same rfl (.same rfl (.same rfl (.same rfl (.same rfl (.same rfl (.same rfl (.same rfl (.same rfl (.same rfl (.same rfl (.same rfl .nil))))))))))))) ?_
                  refine Fin.next ?_
                  refine Tr.seq ?_
                  refine Tr.seq ?_
                  refine Tr.regionK T.mixed (by kernel_rfl) (by kernel_rfl) ?_
                  refine ChainK.consS 158 (.plain rfl (.loadBN 33 (k := 2) (ds := [_, _]) rfl (.of rfl) rfl rfl rfl T.ag75 rfl)) rfl ?_
                  refine ChainK.consS 159 (.plain rfl (.move rfl (.of rfl))) rfl ?_
                  refine ChainK.consS 160 (.plain rfl (.loadR 23 rfl (.of rfl) rfl rfl rfl T.sc79)) rfl ?_
                  refine ChainK.consS 161 (.plain rfl (.move rfl (.of rfl))) rfl ?_
                  refine ChainK.consS 162 (.plain rfl (.indexN 25 (frT ts) rfl (.of rfl) (.of rfl) rfl Own.view rfl Try.underlying79 T.sz3 (by omega) (List.getElem?_set_self (getL_len (fst_get hp1))))) rfl ?_
                  refine ChainK.consS 163 (.plain rfl (.loadW 25 (frT ts) 0 rfl (.of rfl) rfl Own.view rfl (List.getElem?_set_self (getL_len (fst_get hp1))) rfl T.sc3)) rfl ?_
                  refine ChainK.consS 164 (.plain rfl (.build rfl (.cons (.of rfl) (.cons (.of rfl) .nil)) (T.Y7bd75_0_1 _ _))) rfl ?_
                  refine ChainK.consS 165 (.plain rfl (.neqS rfl (.of rfl) (.of rfl) (by kernel_rfl) (T.eq75 _ _ _ _))) rfl ?_
                  refine ChainK.nil ?_
                  refine Fin.keepG (Γ' := [(4, _), (5, _), (6, _), (7, _), (8, _), (9, _), (12, _), (16, _), (17, _), (36, _), (37, _), (38, _), (165, _)]) (.same rfl (.same rfl (.same rfl (.same rfl (.same rfl (.same rfl (.same rfl (.same rfl (.same rfl (.same rfl (.same rfl (.same rfl (.same rfl .nil))))))))))))) ?_
                  refine Fin.next ?_
                  refine Tr.cond rfl (fun hb5 => ?_) (fun hb5 => ?_)
                  · try simp only [decide_eq_true_eq, decide_eq_false_iff_not, beq_iff_eq, beq_eq_false_iff_ne, bne_iff_ne, bne_eq_false_iff_eq, Bool.and_eq_true, Bool.and_eq_false_iff, Bool.or_eq_true, Bool.or_eq_false_iff, Bool.not_eq_true', Bool.not_eq_false', gt_iff_lt, ge_iff_le, Int.not_lt, Int.not_le, ne_eq, Int.natCast_nonneg, true_and, and_true, Decidable.not_not, not_true_eq_false, not_false_eq_true] at hb5
                    exfalso; have e1 := fr_T ts; have e2 := makeG_T ts; rw [hgT] at e2; rw [e1, e2, hfr] at hb5; simp at hb5
                  · have hr5 := hb5; try simp only [decide_eq_true_eq, decide_eq_false_iff_not, beq_iff_eq, beq_eq_false_iff_ne, bne_iff_ne, bne_eq_false_iff_eq, Bool.and_eq_true, Bool.and_eq_false_iff, Bool.or_eq_true, Bool.or_eq_false_iff, Bool.not_eq_true', Bool.not_eq_false', gt_iff_lt, ge_iff_le, Int.not_lt, Int.not_le, ne_eq, Int.natCast_nonneg, true_and, and_true, Decidable.not_not, not_true_eq_false, not_false_eq_true] at hb5
                    refine Tr.skip ?_
                    refine Fin.next ?_
                    refine Tr.seq ?_
                    refine Tr.region ?_
                    refine TrL.stepS 167 (.plain rfl (.fieldP rfl (.of rfl) T.fl81_3)) rfl rfl ?_
                    refine TrL.stepS 168 (.plain rfl (.loadR 32 rfl (.of rfl) rfl rfl rfl T.sc79)) rfl rfl ?_
                    refine TrL.stepS 169 (.plain rfl (.indexN 35 (0) rfl (.of rfl) (.of rfl) rfl Own.view rfl Try.underlying79 T.sz3 (rfl) (rfl))) rfl rfl ?_
                    refine TrL.stepS 170 (.plain rfl (.loadW 35 (0) 0 rfl (.of rfl) rfl Own.view rfl (rfl) rfl T.sc3)) rfl rfl ?_
                    refine TrL.stepS 171 (.plain rfl (.addI L.bd_i64 rfl (.of rfl) (.of rfl) (by omega) (by omega))) rfl rfl ?_
                    refine TrL.stepS 172 (.plain rfl (.indexN 35 (0) rfl (.of rfl) (.of rfl) rfl Own.view rfl Try.underlying79 T.sz3 (rfl) (rfl))) rfl rfl ?_
                    refine TrL.storeO 35 (0) 0 (z' := (q.2.2.2 + 1)) rfl rfl rfl (.of rfl) (.of rfl) (L.hR1 (L.h1is rfl rfl)) rfl rfl (rfl) rfl rfl T.sz3 ?_
                    refine TrL.nil ?_
                    refine Fin.keepG (Γ' := [(4, _), (5, _), (6, _), (7, _), (8, _), (9, _), (12, _), (17, _), (36, _), (37, _), (38, _)]) (.same rfl (.same rfl (.same rfl (.same rfl (.same rfl (.same rfl (.same rfl (.same rfl (.same rfl (.same rfl (.same rfl .nil))))))))))) ?_
                    refine Fin.next ?_
                    refine Tr.region ?_
                    refine TrL.stepS 173 (.plain rfl (.move rfl (.of rfl))) rfl rfl ?_
                    refine TrL.stepS 174 (.plain rfl (.loadBN 33 (k := 2) (ds := [_, _]) rfl (.of rfl) rfl rfl rfl T.ag75 rfl)) rfl rfl ?_
                    refine TrL.stepS 175 (.plain rfl (.slice (K := handR) (xs := [_]) rfl (.cons (.map (.of rfl) (handR_elem _ _)) .nil) Try.underlying78 T.sz75 T.zb75 rfl (by decide))) rfl rfl ?_
                    refine TrL.appendS 27 (bytes := 16) rfl rfl 176 rfl rfl (.of rfl) rfl rfl (.of rfl) Try.underlying78 T.el75 (by simp) (by simp; omega) (by simp only [maxLen, List.length_append, List.length_cons, List.length_nil, List.length_map, List.length_take]; omega) fun v176 => ?_
                    refine TrL.stepS 7 (.plain rfl (.assign rfl (.of rfl))) rfl rfl ?_
                    refine TrL.nil ?_
                    refine Fin.keepG (Γ' := [(4, _), (5, _), (6, _), (7, _), (8, _), (9, _), (12, _), (36, _), (37, _), (38, _)]) (.same rfl (.same rfl (.same rfl (.same rfl (.same rfl (.same rfl (.same rfl (.same rfl (.same rfl (.same rfl .nil)))))))))) ?_
                    refine Fin.blockNormal ?_
                    exact Fin.reach ((mapDel m (fr (esOf ts) : Int), v2, vt1, vn1, v176)) (by dsimp only; rw [← make_T ts hq3.1]; exact hF.make _) (.same rfl (.cons rfl (fun F L w h => by dsimp only; rw [← make_T ts hq3.1]; exact h) (.same rfl (.same rfl (.same rfl (.cons rfl (fun F L w h => by unfold makeT; rw [List.map_set, hgT]; exact h) (.cons rfl (fun F L w h => by unfold makeT; rw [List.map_set]; exact h) (.cons rfl (fun F L w h => by rw [← fr_T ts, ← makeG_T ts]; exact h) (.same rfl (.same rfl (.same rfl .nil))))))))))) (.eq rfl (by first | rfl | (congr 1; first | done | omega | (push_cast; omega) | (push_cast; rfl))) (.eq rfl (by first | rfl | (congr 1; first | done | omega | (push_cast; omega) | (push_cast; rfl))) (.same rfl (.same rfl (.same rfl (.same rfl (.same rfl (.same rfl (.same rfl (.same rfl .nil))))))))))
          · try simp only [decide_eq_true_eq, decide_eq_false_iff_not, beq_iff_eq, beq_eq_false_iff_ne, bne_iff_ne, bne_eq_false_iff_eq, Bool.and_eq_true, Bool.and_eq_false_iff, Bool.or_eq_true, Bool.or_eq_false_iff, Bool.not_eq_true', Bool.not_eq_false', gt_iff_lt, ge_iff_le, Int.not_lt, Int.not_le, ne_eq, Int.natCast_nonneg, true_and, and_true, Decidable.not_not, not_true_eq_false, not_false_eq_true] at hb2
            refine Tr.seq ?_
            refine Tr.region ?_
            refine TrL.stepS 178 (.plain rfl (.eql rfl (.of rfl) (.of rfl))) rfl rfl ?_
            refine TrL.stepS 177 (.plain rfl (.assign rfl (.of rfl))) rfl rfl ?_
            refine TrL.nil ?_
            refine Fin.keepG (Γ' := [(4, _), (5, _), (6, _), (7, _), (8, _), (9, _), (11, _), (12, _), (13, _), (14, _), (36, _), (37, _), (38, _), (69, _), (177, _)]) (.same rfl (.same rfl (.same rfl (.same rfl (.same rfl (.same rfl (.same rfl (.same rfl (.same rfl (.same rfl (.same rfl (.same rfl (.same rfl (.same rfl (.same rfl .nil))))))))))))))) ?_
            refine Fin.next ?_
            refine Tr.cond rfl (fun hb6 => ?_) (fun hb6 => ?_)
            · try simp only [decide_eq_true_eq, decide_eq_false_iff_not, beq_iff_eq, beq_eq_false_iff_ne, bne_iff_ne, bne_eq_false_iff_eq, Bool.and_eq_true, Bool.and_eq_false_iff, Bool.or_eq_true, Bool.or_eq_false_iff, Bool.not_eq_true', Bool.not_eq_false', gt_iff_lt, ge_iff_le, Int.not_lt, Int.not_le, ne_eq, Int.natCast_nonneg, true_and, and_true, Decidable.not_not, not_true_eq_false, not_false_eq_true] at hb6
              obtain ⟨rfl, rfl, rfl⟩ : ts = ts2 ∧ told = told2 ∧ fd = fd2 := by
                have hs' := hs
                unfold stepG at hs'
                dsimp only at hs'
                rw [if_neg (show ¬ q.1 % 6 ≤ 1 by omega), if_pos (show q.1 % 6 = 2 by omega)] at hs'
                cases hs'; exact ⟨rfl, rfl, rfl⟩
              refine Tr.seq ?_
              refine Tr.region ?_
              refine TrL.stepS 180 (.plain rfl (.move rfl (.of rfl))) rfl rfl ?_
              refine TrL.stepS 181 (.plain rfl (.loadBN 30 (k := 2) (ds := [_, _]) rfl (.of rfl) rfl rfl rfl T.ag75 rfl)) rfl rfl ?_
              refine TrL.stepS 182 (.plain rfl (.callR [20, 21, 22] rfl (F46 g0.1 v g0.2 m (esOf ts) hF hoe hel o1.1 o1.2) (.cons (.of rfl) (.cons (.of rfl) .nil)) (.same rfl (.same rfl (.same rfl .nil))) rfl)) rfl rfl ?_
              refine TrL.stepS 179 (.plain rfl (.move rfl (.of rfl))) rfl rfl ?_
              refine TrL.stepS 183 (.plain rfl (.extract rfl (.of rfl) rfl)) rfl rfl ?_
              refine TrL.stepS 184 (.plain rfl (.extract rfl (.of rfl) rfl)) rfl rfl ?_
              refine TrL.allocR 34 (zs := [.bool false, .slice none 0 0, .slice none 0 0, .slice none 0 0]) rfl rfl (by kernel_rfl) 18 rfl rfl rfl fun b34 => ?_
              refine TrL.storeRW 34 rfl rfl rfl (.of rfl) (.of rfl) rfl rfl ((L.all1_cons (L.h1is rfl rfl) (L.all1_cons (L.h1lst) (L.all1_cons (L.h1lst) (L.all1_cons (L.h1lst) L.all1_nil))))) T.sz81 rfl ?_
              refine TrL.stepS 19 (.plain rfl (.assign rfl (.of rfl))) rfl rfl ?_
              refine TrL.nil ?_
              refine Fin.keepG (Γ' := [(4, _), (5, _), (6, _), (7, _), (8, _), (9, _), (12, _), (13, _), (18, _), (19, _), (36, _), (37, _), (38, _)]) (.same rfl (.same rfl (.same rfl (.same rfl (.same rfl (.same rfl (.same rfl (.same rfl (.same rfl (.same rfl (.same rfl (.same rfl (.same rfl .nil))))))))))))) ?_
              refine Fin.next ?_
              refine Tr.seq ?_
              refine Tr.regionK T.mixed (by kernel_rfl) (by kernel_rfl) ?_
              refine ChainK.consS 185 (.plain rfl (.move rfl (.of rfl))) rfl ?_
              refine ChainK.consS 186 (.plain rfl (.loadBN 30 (k := 2) (ds := [_, _]) rfl (.of rfl) rfl rfl rfl T.ag75 rfl)) rfl ?_
              refine ChainK.consS 187 (.plain rfl (.callRg (first := []) (caps := [_, _]) [23, 25, 24, 26] rfl (.of rfl) (F51 b23 b24 vt vn ts (by omega) o1.1 o1.2) (.cons (.of rfl) .nil) (.same rfl (.cons rfl L.Own.view (.same rfl (.cons rfl L.Own.view .nil)))) rfl)) rfl ?_
              refine ChainK.consS 188 (.plain rfl (.move rfl (.of rfl))) rfl ?_
              refine ChainK.consS 189 (.plain rfl (.eql rfl (.of rfl) (.of rfl))) rfl ?_
              refine ChainK.consS 190 (.plain rfl (.neqB rfl (.of rfl) (.of rfl) Try.underlying4)) rfl ?_
              refine ChainK.consS 191 (.plain rfl (.move rfl (.of rfl))) rfl ?_
              refine ChainK.consS 192 (.guarded rfl rfl rfl fun hg => .move rfl (.of rfl)) rfl ?_
              refine ChainK.consS 193 (.guarded rfl rfl rfl fun hg => .neq rfl (.cond rfl hg) (.of rfl)) rfl ?_
              refine ChainK.consS 194 (.guarded rfl rfl rfl fun hg => .move rfl (.cond rfl hg)) rfl ?_
              refine ChainK.consS 195 (.guarded2 rfl rfl rfl fun hp hg => .move rfl (.of rfl)) rfl ?_
              refine ChainK.consS 196 (.guarded2 rfl rfl rfl fun hp hg => .neq rfl (.cond rfl ⟨hp, hg⟩) (.of rfl)) rfl ?_
              refine ChainK.consS 197 (.guarded rfl rfl rfl fun hg => .and rfl (.cond rfl hg) (.cond rfl fun h => ⟨hg, h⟩)) rfl ?_
              refine ChainK.consS 198 (.plain rfl (.or rfl (.of rfl) (.cond rfl fun h => h))) rfl ?_
              refine ChainK.consS 199 (.plain rfl (.move rfl (.of rfl))) rfl ?_
              refine ChainK.consS 200 (.guarded rfl rfl rfl fun hg => .move rfl (.of rfl)) rfl ?_
              refine ChainK.consS 201 (.guarded rfl rfl rfl fun hg => .eql rfl (.cond rfl hg) (.of rfl)) rfl ?_
              refine ChainK.consS 202 (.guarded rfl rfl rfl fun hg => .move rfl (.cond rfl hg)) rfl ?_
              refine ChainK.consS 203 (.guarded2 rfl rfl rfl fun hp hg => .loadRN 34 (k := 4) rfl (.of rfl) rfl rfl rfl T.ag81 rfl) rfl ?_
              refine ChainK.consS 204 (.guarded2 rfl rfl rfl fun hp hg => .loadR 24 rfl (.of rfl) rfl rfl rfl T.sc79) rfl ?_
              refine ChainK.consS 205 (.guarded2 rfl rfl rfl fun hp hg => .fieldP rfl (.of rfl) T.fl75_0) rfl ?_
              refine ChainK.consS 206 (.guarded2 rfl rfl rfl fun hp hg => .loadB 30 rfl (.cond rfl ⟨hp, hg⟩) rfl rfl rfl T.sc3) rfl ?_
              refine ChainK.consS 207 (.guarded2 rfl rfl rfl fun hp hg => .indexN 26 (o1.1.toNat) rfl (.cond rfl ⟨hp, hg⟩) (.cond rfl ⟨hp, hg⟩) rfl Own.view rfl Try.underlying79 T.sz3 (by have := (hasT_get (err_has hg)).1; omega) (snd_get (getT (hasT_get (err_has hg)).2.1))) rfl ?_
              refine ChainK.consS 208 (.guarded2 rfl rfl rfl fun hp hg => .loadW 26 (o1.1.toNat) 0 rfl (.cond rfl ⟨hp, hg⟩) rfl Own.view rfl (snd_get (getT (hasT_get (err_has hg)).2.1)) rfl T.sc3) rfl ?_
              refine ChainK.consS 209 (.guarded2 rfl rfl rfl fun hp hg => .conv rfl (.cond rfl ⟨hp, hg⟩) T.us3 Try.underlying5) rfl ?_
              refine ChainK.consS 210 (.guarded2 rfl rfl rfl fun hp hg => .call rfl (F50 _ (wrap_u8 _)) (.cons (.cond rfl ⟨hp, hg⟩) .nil)) rfl ?_
              refine ChainK.consS 211 (.guarded2 rfl rfl rfl fun hp hg => .call rfl (F49 _ _ (getE_ok hoe _ _) (nodeOf_ok _)) (.cons (.cond rfl ⟨hp, hg⟩) (.cons (.cond rfl ⟨hp, hg⟩) .nil))) rfl ?_
              refine ChainK.consS 212 (.guarded2 rfl rfl rfl fun hp hg => .not rfl (.cond rfl ⟨hp, hg⟩)) rfl ?_
              refine ChainK.consS 213 (.guarded rfl rfl rfl fun hg => .and rfl (.cond rfl hg) (.cond rfl fun h => ⟨hg, h⟩)) rfl ?_
              refine ChainK.consS 214 (.plain rfl (.or rfl (.of rfl) (.cond rfl fun h => h))) rfl ?_
              refine ChainK.nil ?_
              refine Fin.keepG (Γ' := [(4, _), (5, _), (6, _), (7, _), (8, _), (9, _), (12, _), (36, _), (37, _), (38, _), (214, _)]) (.same rfl (.same rfl (.same rfl (.same rfl (.same rfl (.same rfl (.same rfl (.same rfl (.same rfl (.same rfl (.same rfl .nil))))))))))) ?_
              refine Fin.next ?_
              refine Tr.cond rfl (fun hb7 => ?_) (fun hb7 => ?_)
              · try simp only [decide_eq_true_eq, decide_eq_false_iff_not, beq_iff_eq, beq_eq_false_iff_ne, bne_iff_ne, bne_eq_false_iff_eq, Bool.and_eq_true, Bool.and_eq_false_iff, Bool.or_eq_true, Bool.or_eq_false_iff, Bool.not_eq_true', Bool.not_eq_false', gt_iff_lt, ge_iff_le, Int.not_lt, Int.not_le, ne_eq, Int.natCast_nonneg, true_and, and_true, Decidable.not_not, not_true_eq_false, not_false_eq_true] at hb7
                exfalso; rw [err_T] at hb7; cases hh : hasT ts o1.1 o1.2 with
                | false => simp [hh] at hb7
                | true =>
                  have h2 := hasT_get hh
                  have h3 := getD_bd hinv.bd o1.1.toNat
                  rw [get_T hh, wrap_u8_in ⟨h2.2.2.1, h3.2.2⟩] at hb7
                  simp [hh] at hb7
              · have hr7 := hb7; try simp only [decide_eq_true_eq, decide_eq_false_iff_not, beq_iff_eq, beq_eq_false_iff_ne, bne_iff_ne, bne_eq_false_iff_eq, Bool.and_eq_true, Bool.and_eq_false_iff, Bool.or_eq_true, Bool.or_eq_false_iff, Bool.not_eq_true', Bool.not_eq_false', gt_iff_lt, ge_iff_le, Int.not_lt, Int.not_le, ne_eq, Int.natCast_nonneg, true_and, and_true, Decidable.not_not, not_true_eq_false, not_false_eq_true] at hb7
                refine Tr.skip ?_
                refine Fin.blockNormal ?_
                exact Fin.reach ((m, v, vt, vn, w0)) (hF) (.same rfl (.same rfl (.same rfl (.same rfl (.same rfl (.same rfl (.same rfl (.same rfl (.same rfl (.same rfl (.same rfl .nil))))))))))) (.eq rfl (by first | rfl | (congr 1; first | done | omega | (push_cast; omega) | (push_cast; rfl))) (.eq rfl (by first | rfl | (congr 1; first | done | omega | (push_cast; omega) | (push_cast; rfl))) (.same rfl (.same rfl (.same rfl (.same rfl (.same rfl (.same rfl (.same rfl (.same rfl .nil))))))))))
            · try simp only [decide_eq_true_eq, decide_eq_false_iff_not, beq_iff_eq, beq_eq_false_iff_ne, bne_iff_ne, bne_eq_false_iff_eq, Bool.and_eq_true, Bool.and_eq_false_iff, Bool.or_eq_true, Bool.or_eq_false_iff, Bool.not_eq_true', Bool.not_eq_false', gt_iff_lt, ge_iff_le, Int.not_lt, Int.not_le, ne_eq, Int.natCast_nonneg, true_and, and_true, Decidable.not_not, not_true_eq_false, not_false_eq_true] at hb6
              refine Tr.seq ?_
              refine Tr.region ?_
              refine TrL.stepS 217 (.plain rfl (.eql rfl (.of rfl) (.of rfl))) rfl rfl ?_
              refine TrL.stepS 216 (.plain rfl (.assign rfl (.of rfl))) rfl rfl ?_
              refine TrL.nil ?_
              refine Fin.keepG (Γ' := [(4, _), (5, _), (6, _), (7, _), (8, _), (9, _), (11, _), (12, _), (13, _), (14, _), (36, _), (37, _), (38, _), (69, _), (216, _)]) (.same rfl (.same rfl (.same rfl (.same rfl (.same rfl (.same rfl (.same rfl (.same rfl (.same rfl (.same rfl (.same rfl (.same rfl (.same rfl (.same rfl (.same rfl .nil))))))))))))))) ?_
              refine Fin.next ?_
              refine Tr.cond rfl (fun hb8 => ?_) (fun hb8 => ?_)
              · try simp only [decide_eq_true_eq, decide_eq_false_iff_not, beq_iff_eq, beq_eq_false_iff_ne, bne_iff_ne, bne_eq_false_iff_eq, Bool.and_eq_true, Bool.and_eq_false_iff, Bool.or_eq_true, Bool.or_eq_false_iff, Bool.not_eq_true', Bool.not_eq_false', gt_iff_lt, ge_iff_le, Int.not_lt, Int.not_le, ne_eq, Int.natCast_nonneg, true_and, and_true, Decidable.not_not, not_true_eq_false, not_false_eq_true] at hb8
                obtain ⟨rfl, rfl, rfl⟩ : putT ts (oneT told q.2.1) q.2.2.2 = ts2 ∧ told = told2 ∧ fd = fd2 := by
                  have hs' := hs
                  unfold stepG at hs'
                  dsimp only at hs'
                  rw [if_neg (show ¬ q.1 % 6 ≤ 1 by omega), if_neg (show ¬ q.1 % 6 = 2 by omega), if_pos (show q.1 % 6 = 3 by omega)] at hs'
                  cases hs'; exact ⟨rfl, rfl, rfl⟩
                refine Tr.seq ?_
                refine Tr.regionW [([], [], []), ([30], [], []), ([28], [], []), ([28], [], []), ([], [], []), ([20, 21, 22], [21], []), ([], [], [])] T.mixed (by kernel_rfl) (by kernel_rfl) (by kernel_rfl) (by kernel_rfl) ?_
                refine AChain.rd 218 rfl (fun σ => .plain rfl (.move rfl (.of rfl))) rfl rfl (fun _ _ => rfl) (L.Dep.const) ?_
                refine AChain.rd 219 rfl (fun σ => .plain rfl (.loadBN 30 (k := 2) (ds := [_, _]) rfl (.of rfl) rfl rfl rfl T.ag75 rfl)) rfl rfl (fun _ _ => rfl) (L.Dep.const) ?_
                refine AChain.rd 220 rfl (fun σ => .plain rfl (.fieldP rfl (.of rfl) T.fl88_3)) rfl rfl (fun _ _ => rfl) (L.Dep.const) ?_
                refine AChain.rd 221 rfl (fun σ => .plain rfl (.loadB 28 rfl (.of rfl) rfl rfl rfl T.sc5)) rfl rfl (fun _ _ => rfl) (L.Dep.const) ?_
                refine AChain.rd 222 rfl (fun σ => .plain rfl (.call rfl (F50 q.2.2.2 hq3) (.cons (.of rfl) .nil))) rfl rfl (fun _ _ => rfl) (L.Dep.const) ?_
                refine AChain.wr1V 21 223 rfl rfl rfl rfl rfl (fun w0 κ0 σ => TrL.callG [20, 22] [21] [21] rfl rfl 223 rfl rfl (F52 g0.1 v g0.2 m (esOf ts) hF hoe hel o1.1 o1.2 (nodeOf q.2.2.2) (nodeOf_ok _)) (.cons (.of rfl) (.cons (.of rfl) (.cons (.of rfl) .nil))) (.same rfl (.same rfl (.same rfl .nil))) rfl rfl (fun _ => rfl) fun _ => (TrL.doneR rfl (fun _ => rfl) (fun _ => .free rfl .nil))) ?_
                refine AChain.rd 20 rfl (fun σ => .plain rfl (.assign rfl (.of rfl))) rfl rfl (fun _ _ => rfl) (L.Dep.const) ?_
                refine AChain.nil ?_
                intro s39
                refine Fin.keepG (Γ' := [(4, _), (5, _), (6, _), (7, _), (8, _), (9, _), (11, _), (12, _), (13, _), (20, _), (36, _), (37, _), (38, _)]) (.same rfl (.same rfl (.same rfl (.same rfl (.same rfl (.same rfl (.same rfl (.same rfl (.same rfl (.same rfl (.same rfl (.same rfl (.same rfl .nil))))))))))))) ?_
                refine Fin.next ?_
                refine Tr.seq ?_
                refine Tr.seq ?_
                refine Tr.region ?_
                refine TrL.stepS 224 (.plain rfl (.move rfl (.of rfl))) rfl rfl ?_
                refine TrL.stepS 225 (.plain rfl (.loadBN 30 (k := 2) (ds := [_, _]) rfl (.of rfl) rfl rfl rfl T.ag75 rfl)) rfl rfl ?_
                refine TrL.stepS 226 (.plain rfl (.callRg (first := []) (caps := [_, _]) [23, 25, 24, 26] rfl (.of rfl) (F51 b23 b24 vt vn ts (by omega) o1.1 o1.2) (.cons (.of rfl) .nil) (.same rfl (.cons rfl L.Own.view (.same rfl (.cons rfl L.Own.view .nil)))) rfl)) rfl rfl ?_
                refine TrL.stepS 227 (.plain rfl (.move rfl (.of rfl))) rfl rfl ?_
                refine TrL.stepS 228 (.plain rfl (.eql rfl (.of rfl) (.of rfl))) rfl rfl ?_
                refine TrL.stepS 229 (.plain rfl (.neqB rfl (.of rfl) (.of rfl) Try.underlying4)) rfl rfl ?_
                refine TrL.stepS 230 (.plain rfl (.move rfl (.of rfl))) rfl rfl ?_
                refine TrL.stepS 231 (.guarded rfl rfl rfl fun hg => .move rfl (.of rfl)) rfl rfl ?_
                refine TrL.stepS 232 (.guarded rfl rfl rfl fun hg => .neq rfl (.cond rfl hg) (.of rfl)) rfl rfl ?_
                refine TrL.stepS 233 (.guarded rfl rfl rfl fun hg => .move rfl (.cond rfl hg)) rfl rfl ?_
                refine TrL.stepS 234 (.guarded2 rfl rfl rfl fun hp hg => .move rfl (.of rfl)) rfl rfl ?_
                refine TrL.stepS 235 (.guarded2 rfl rfl rfl fun hp hg => .neq rfl (.cond rfl ⟨hp, hg⟩) (.of rfl)) rfl rfl ?_
                refine TrL.stepS 236 (.guarded rfl rfl rfl fun hg => .and rfl (.cond rfl hg) (.cond rfl fun h => ⟨hg, h⟩)) rfl rfl ?_
                refine TrL.stepS 237 (.plain rfl (.or rfl (.of rfl) (.cond rfl fun h => h))) rfl rfl ?_
                refine TrL.nil ?_
                refine Fin.keepG (Γ' := [(4, _), (5, _), (6, _), (7, _), (8, _), (9, _), (11, _), (12, _), (13, _), (20, _), (36, _), (37, _), (38, _), (237, _)]) (.same rfl (.same rfl (.same rfl (.same rfl (.same rfl (.same rfl (.same rfl (.same rfl (.same rfl (.same rfl (.same rfl (.same rfl (.same rfl (.same rfl .nil)))))))))))))) ?_
                refine Fin.next ?_
                refine Tr.cond rfl (fun hb9 => ?_) (fun hb9 => ?_)
                · try simp only [decide_eq_true_eq, decide_eq_false_iff_not, beq_iff_eq, beq_eq_false_iff_ne, bne_iff_ne, bne_eq_false_iff_eq, Bool.and_eq_true, Bool.and_eq_false_iff, Bool.or_eq_true, Bool.or_eq_false_iff, Bool.not_eq_true', Bool.not_eq_false', gt_iff_lt, ge_iff_le, Int.not_lt, Int.not_le, ne_eq, Int.natCast_nonneg, true_and, and_true, Decidable.not_not, not_true_eq_false, not_false_eq_true] at hb9
                  exfalso; rw [err_T] at hb9; cases hh : hasT ts o1.1 o1.2 <;> simp [hh] at hb9
                · have hr9 := hb9; try simp only [decide_eq_true_eq, decide_eq_false_iff_not, beq_iff_eq, beq_eq_false_iff_ne, bne_iff_ne, bne_eq_false_iff_eq, Bool.and_eq_true, Bool.and_eq_false_iff, Bool.or_eq_true, Bool.or_eq_false_iff, Bool.not_eq_true', Bool.not_eq_false', gt_iff_lt, ge_iff_le, Int.not_lt, Int.not_le, ne_eq, Int.natCast_nonneg, true_and, and_true, Decidable.not_not, not_true_eq_false, not_false_eq_true] at hb9
                  refine Tr.skip ?_
                  refine Fin.next ?_
                  refine Tr.seq ?_
                  refine Tr.region ?_
                  refine TrL.stepS 239 (.plain rfl (.move rfl (.of rfl))) rfl rfl ?_
                  refine TrL.stepS 240 (.plain rfl (.eql rfl (.of rfl) (.of rfl))) rfl rfl ?_
                  refine TrL.nil ?_
                  refine Fin.keepG (Γ' := [(4, _), (5, _), (6, _), (7, _), (8, _), (9, _), (11, _), (12, _), (13, _), (36, _), (37, _), (38, _), (240, _)]) (.same rfl (.same rfl (.same rfl (.same rfl (.same rfl (.same rfl (.same rfl (.same rfl (.same rfl (.same rfl (.same rfl (.same rfl (.same rfl .nil))))))))))))) ?_
                  refine Fin.next ?_
                  refine Tr.cond rfl (fun hb10 => ?_) (fun hb10 => ?_)
                  · try simp only [decide_eq_true_eq, decide_eq_false_iff_not, beq_iff_eq, beq_eq_false_iff_ne, bne_iff_ne, bne_eq_false_iff_eq, Bool.and_eq_true, Bool.and_eq_false_iff, Bool.or_eq_true, Bool.or_eq_false_iff, Bool.not_eq_true', Bool.not_eq_false', gt_iff_lt, ge_iff_le, Int.not_lt, Int.not_le, ne_eq, Int.natCast_nonneg, true_and, and_true, Decidable.not_not, not_true_eq_false, not_false_eq_true] at hb10
                    have has1 : hasT ts o1.1 o1.2 = true := err_has (by simpa using hb10)
                    refine Tr.region ?_
                    refine TrL.stepS 241 (.plain rfl (.loadR 24 rfl (.of rfl) rfl rfl rfl T.sc79)) rfl rfl ?_
                    refine TrL.stepS 242 (.plain rfl (.fieldP rfl (.of rfl) T.fl75_0)) rfl rfl ?_
                    refine TrL.stepS 243 (.plain rfl (.loadB 30 rfl (.of rfl) rfl rfl rfl T.sc3)) rfl rfl ?_
                    refine TrL.stepS 244 (.plain rfl (.fieldP rfl (.of rfl) T.fl88_3)) rfl rfl ?_
                    refine TrL.stepS 245 (.plain rfl (.loadB 28 rfl (.of rfl) rfl rfl rfl T.sc5)) rfl rfl ?_
                    first | refine TrL.stepS 246 (.plain rfl (.convI L.bd_i64 rfl (.of rfl) T.us5 Try.underlying3 (by omega) (by omega))) rfl rfl ?_ | refine TrL.stepS 246 (.plain rfl (.conv rfl (.of rfl) T.us5 Try.underlying3)) rfl rfl ?_
                    refine TrL.stepS 247 (.plain rfl (.indexN 26 (o1.1.toNat) rfl (.of rfl) (.of rfl) rfl Own.view rfl Try.underlying79 T.sz3 (by have := (hasT_get has1).1; omega) (snd_get (getT (hasT_get has1).2.1)))) rfl rfl ?_
                    refine TrL.storeO 26 (o1.1.toNat) 0 (z' := q.2.2.2) rfl rfl rfl (.of rfl) (.of rfl) (L.hR1 (L.h1is rfl rfl)) rfl rfl (snd_get (getT (hasT_get has1).2.1)) rfl rfl T.sz3 ?_
                    refine TrL.nil ?_
                    refine Fin.keepG (Γ' := [(4, _), (5, _), (6, _), (7, _), (8, _), (9, _), (12, _), (36, _), (37, _), (38, _)]) (.same rfl (.same rfl (.same rfl (.same rfl (.same rfl (.same rfl (.same rfl (.same rfl (.same rfl (.same rfl .nil)))))))))) ?_
                    refine Fin.blockNormal ?_
                    exact Fin.reach ((m, v, vt, vn, w0)) (by rw [← ho1]; exact hF.put _ hq3.1) (.same rfl (.cons rfl (fun F L w h => by rw [← ho1, ← put_T ts o1 hq3.1]; exact h) (.same rfl (.same rfl (.same rfl (.cons rfl (fun F L w h => by rw [← ho1]; unfold putT; rw [if_pos has1, List.map_set, off_map1 ts _ 0 0]; exact h) (.cons rfl (fun F L w h => by rw [← ho1]; unfold putT; rw [if_pos has1, List.map_set]; exact h) (.same rfl (.same rfl (.same rfl (.same rfl .nil))))))))))) (.eq rfl (by first | rfl | (congr 1; first | done | omega | (push_cast; omega) | (push_cast; rfl))) (.eq rfl (by first | rfl | (congr 1; first | done | omega | (push_cast; omega) | (push_cast; rfl))) (.same rfl (.same rfl (.same rfl (.same rfl (.same rfl (.same rfl (.same rfl (.same rfl .nil))))))))))
                  · try simp only [decide_eq_true_eq, decide_eq_false_iff_not, beq_iff_eq, beq_eq_false_iff_ne, bne_iff_ne, bne_eq_false_iff_eq, Bool.and_eq_true, Bool.and_eq_false_iff, Bool.or_eq_true, Bool.or_eq_false_iff, Bool.not_eq_true', Bool.not_eq_false', gt_iff_lt, ge_iff_le, Int.not_lt, Int.not_le, ne_eq, Int.natCast_nonneg, true_and, and_true, Decidable.not_not, not_true_eq_false, not_false_eq_true] at hb10
                    have hno1 : ¬ hasT ts o1.1 o1.2 = true := fun h => by have h' := hb10; rw [err_T, if_pos h] at h'; omega
                    refine Tr.skip ?_
                    refine Fin.blockNormal ?_
                    exact Fin.reach ((m, v, vt, vn, w0)) (by rw [← ho1]; exact hF.put _ hq3.1) (.same rfl (.cons rfl (fun F L w h => by rw [← ho1, ← put_T ts o1 hq3.1]; exact h) (.same rfl (.same rfl (.same rfl (.cons rfl (fun F L w h => by rw [← ho1]; unfold putT; rw [if_neg hno1]; exact h) (.cons rfl (fun F L w h => by rw [← ho1]; unfold putT; rw [if_neg hno1]; exact h) (.same rfl (.same rfl (.same rfl (.same rfl .nil))))))))))) (.eq rfl (by first | rfl | (congr 1; first | done | omega | (push_cast; omega) | (push_cast; rfl))) (.eq rfl (by first | rfl | (congr 1; first | done | omega | (push_cast; omega) | (push_cast; rfl))) (.same rfl (.same rfl (.same rfl (.same rfl (.same rfl (.same rfl (.same rfl (.same rfl .nil))))))))))
              · try simp only [decide_eq_true_eq, decide_eq_false_iff_not, beq_iff_eq, beq_eq_false_iff_ne, bne_iff_ne, bne_eq_false_iff_eq, Bool.and_eq_true, Bool.and_eq_false_iff, Bool.or_eq_true, Bool.or_eq_false_iff, Bool.not_eq_true', Bool.not_eq_false', gt_iff_lt, ge_iff_le, Int.not_lt, Int.not_le, ne_eq, Int.natCast_nonneg, true_and, and_true, Decidable.not_not, not_true_eq_false, not_false_eq_true] at hb8
                refine Tr.seq ?_
                refine Tr.region ?_
                refine TrL.stepS 249 (.plain rfl (.eql rfl (.of rfl) (.of rfl))) rfl rfl ?_
                refine TrL.stepS 248 (.plain rfl (.assign rfl (.of rfl))) rfl rfl ?_
                refine TrL.nil ?_
                refine Fin.keepG (Γ' := [(4, _), (5, _), (6, _), (7, _), (8, _), (9, _), (12, _), (13, _), (14, _), (36, _), (37, _), (38, _), (248, _)]) (.same rfl (.same rfl (.same rfl (.same rfl (.same rfl (.same rfl (.same rfl (.same rfl (.same rfl (.same rfl (.same rfl (.same rfl (.same rfl .nil))))))))))))) ?_
                refine Fin.next ?_
                refine Tr.cond rfl (fun hb11 => ?_) (fun hb11 => ?_)
                · try simp only [decide_eq_true_eq, decide_eq_false_iff_not, beq_iff_eq, beq_eq_false_iff_ne, bne_iff_ne, bne_eq_false_iff_eq, Bool.and_eq_true, Bool.and_eq_false_iff, Bool.or_eq_true, Bool.or_eq_false_iff, Bool.not_eq_true', Bool.not_eq_false', gt_iff_lt, ge_iff_le, Int.not_lt, Int.not_le, ne_eq, Int.natCast_nonneg, true_and, and_true, Decidable.not_not, not_true_eq_false, not_false_eq_true] at hb11
                  refine Tr.seq ?_
                  refine Tr.region ?_
                  refine TrL.stepS 250 (.plain rfl (.move rfl (.of rfl))) rfl rfl ?_
                  refine TrL.stepS 251 (.plain rfl (.loadBN 30 (k := 2) (ds := [_, _]) rfl (.of rfl) rfl rfl rfl T.ag75 rfl)) rfl rfl ?_
                  refine TrL.stepS 252 (.plain rfl (.slice (K := handR) (xs := [_]) rfl (.cons (.map (.of rfl) (handR_elem _ _)) .nil) Try.underlying78 T.sz75 T.zb75 rfl (by decide))) rfl rfl ?_
                  refine TrL.callG [20] [21, 22] [21, 22] rfl rfl 253 rfl rfl (F45 g0.1 v g0.2 m (esOf ts) hF hoe hel [o1] (by simp)) (.cons (.of rfl) (.cons (.of rfl) .nil)) (.same rfl (.same rfl (.same rfl .nil))) rfl rfl (fun _ => rfl) fun _ => ?_
                  refine TrL.stepS 21 (.plain rfl (.assign rfl (.of rfl))) rfl rfl ?_
                  refine TrL.nil ?_
                  refine Fin.keepG (Γ' := [(4, _), (5, _), (6, _), (7, _), (8, _), (9, _), (12, _), (13, _), (21, _), (36, _), (37, _), (38, _)]) (.same rfl (.same rfl (.same rfl (.same rfl (.same rfl (.same rfl (.same rfl (.same rfl (.same rfl (.same rfl (.same rfl (.same rfl .nil)))))))))))) ?_
                  refine Fin.next ?_
                  refine Tr.seq ?_
                  refine Tr.seq ?_
                  refine Tr.region ?_
                  refine TrL.stepS 254 (.plain rfl (.move rfl (.of rfl))) rfl rfl ?_
                  refine TrL.stepS 255 (.plain rfl (.loadBN 30 (k := 2) (ds := [_, _]) rfl (.of rfl) rfl rfl rfl T.ag75 rfl)) rfl rfl ?_
                  refine TrL.stepS 256 (.plain rfl (.callRg (first := []) (caps := [_, _]) [23, 25, 24, 26] rfl (.of rfl) (F51 b23 b24 vt vn ts (by omega) o1.1 o1.2) (.cons (.of rfl) .nil) (.same rfl (.cons rfl L.Own.view (.same rfl (.cons rfl L.Own.view .nil)))) rfl)) rfl rfl ?_
                  refine TrL.stepS 257 (.plain rfl (.move rfl (.of rfl))) rfl rfl ?_
                  refine TrL.stepS 258 (.plain rfl (.eql rfl (.of rfl) (.of rfl))) rfl rfl ?_
                  refine TrL.stepS 259 (.plain rfl (.neqB rfl (.of rfl) (.of rfl) Try.underlying4)) rfl rfl ?_
                  refine TrL.stepS 260 (.plain rfl (.move rfl (.of rfl))) rfl rfl ?_
                  refine TrL.stepS 261 (.guarded rfl rfl rfl fun hg => .move rfl (.of rfl)) rfl rfl ?_
                  refine TrL.stepS 262 (.guarded rfl rfl rfl fun hg => .neq rfl (.cond rfl hg) (.of rfl)) rfl rfl ?_
                  refine TrL.stepS 263 (.guarded rfl rfl rfl fun hg => .move rfl (.cond rfl hg)) rfl rfl ?_
                  refine TrL.stepS 264 (.guarded2 rfl rfl rfl fun hp hg => .move rfl (.of rfl)) rfl rfl ?_
                  refine TrL.stepS 265 (.guarded2 rfl rfl rfl fun hp hg => .neq rfl (.cond rfl ⟨hp, hg⟩) (.of rfl)) rfl rfl ?_
                  refine TrL.stepS 266 (.guarded rfl rfl rfl fun hg => .and rfl (.cond rfl hg) (.cond rfl fun h => ⟨hg, h⟩)) rfl rfl ?_
                  refine TrL.stepS 267 (.plain rfl (.or rfl (.of rfl) (.cond rfl fun h => h))) rfl rfl ?_
                  refine TrL.nil ?_
                  refine Fin.keepG (Γ' := [(4, _), (5, _), (6, _), (7, _), (8, _), (9, _), (12, _), (13, _), (21, _), (36, _), (37, _), (38, _), (267, _)]) (.same rfl (.same rfl (.same rfl (.same rfl (.same rfl (.same rfl (.same rfl (.same rfl (.same rfl (.same rfl (.same rfl (.same rfl (.same rfl .nil))))))))))))) ?_
                  refine Fin.next ?_
                  refine Tr.cond rfl (fun hb12 => ?_) (fun hb12 => ?_)
                  · try simp only [decide_eq_true_eq, decide_eq_false_iff_not, beq_iff_eq, beq_eq_false_iff_ne, bne_iff_ne, bne_eq_false_iff_eq, Bool.and_eq_true, Bool.and_eq_false_iff, Bool.or_eq_true, Bool.or_eq_false_iff, Bool.not_eq_true', Bool.not_eq_false', gt_iff_lt, ge_iff_le, Int.not_lt, Int.not_le, ne_eq, Int.natCast_nonneg, true_and, and_true, Decidable.not_not, not_true_eq_false, not_false_eq_true] at hb12
                    exfalso; rw [free1] at hb12; cases hh : hasT ts o1.1 o1.2 <;> simp [hh] at hb12
                  · have hr12 := hb12; try simp only [decide_eq_true_eq, decide_eq_false_iff_not, beq_iff_eq, beq_eq_false_iff_ne, bne_iff_ne, bne_eq_false_iff_eq, Bool.and_eq_true, Bool.and_eq_false_iff, Bool.or_eq_true, Bool.or_eq_false_iff, Bool.not_eq_true', Bool.not_eq_false', gt_iff_lt, ge_iff_le, Int.not_lt, Int.not_le, ne_eq, Int.natCast_nonneg, true_and, and_true, Decidable.not_not, not_true_eq_false, not_false_eq_true] at hb12
                    refine Tr.skip ?_
                    refine Fin.next ?_
                    refine Tr.seq ?_
                    refine Tr.region ?_
                    refine TrL.stepS 269 (.plain rfl (.move rfl (.of rfl))) rfl rfl ?_
                    refine TrL.stepS 270 (.plain rfl (.eql rfl (.of rfl) (.of rfl))) rfl rfl ?_
                    refine TrL.nil ?_
                    refine Fin.keepG (Γ' := [(4, _), (5, _), (6, _), (7, _), (8, _), (9, _), (12, _), (13, _), (36, _), (37, _), (38, _), (270, _)]) (.same rfl (.same rfl (.same rfl (.same rfl (.same rfl (.same rfl (.same rfl (.same rfl (.same rfl (.same rfl (.same rfl (.same rfl .nil)))))))))))) ?_
                    refine Fin.next ?_
                    refine Tr.cond rfl (fun hb13 => ?_) (fun hb13 => ?_)
                    · try simp only [decide_eq_true_eq, decide_eq_false_iff_not, beq_iff_eq, beq_eq_false_iff_ne, bne_iff_ne, bne_eq_false_iff_eq, Bool.and_eq_true, Bool.and_eq_false_iff, Bool.or_eq_true, Bool.or_eq_false_iff, Bool.not_eq_true', Bool.not_eq_false', gt_iff_lt, ge_iff_le, Int.not_lt, Int.not_le, ne_eq, Int.natCast_nonneg, true_and, and_true, Decidable.not_not, not_true_eq_false, not_false_eq_true] at hb13
                      have has1 : hasT ts o1.1 o1.2 = true := by
                        have h' := hb13; rw [free1] at h'; cases hh : hasT ts o1.1 o1.2 <;> simp [hh] at h' ⊢
                      obtain ⟨rfl, rfl, rfl⟩ : offT ts o1 = ts2 ∧ told = told2 ∧ fd + 1 = fd2 := by
                        have hs' := hs
                        unfold stepG at hs'
                        dsimp only at hs'
                        rw [if_neg (show ¬ q.1 % 6 ≤ 1 by omega), if_neg (show ¬ q.1 % 6 = 2 by omega), if_neg (show ¬ q.1 % 6 = 3 by omega), if_pos (show q.1 % 6 = 4 by omega), ← ho1, if_pos has1] at hs'
                        cases hs'; exact ⟨rfl, rfl, rfl⟩
                      refine Tr.seq ?_
                      refine Tr.region ?_
                      refine TrL.stepS 271 (.plain rfl (.loadR 24 rfl (.of rfl) rfl rfl rfl T.sc79)) rfl rfl ?_
                      refine TrL.stepS 272 (.plain rfl (.fieldP rfl (.of rfl) T.fl75_0)) rfl rfl ?_
                      refine TrL.stepS 273 (.plain rfl (.loadB 30 rfl (.of rfl) rfl rfl rfl T.sc3)) rfl rfl ?_
                      refine TrL.stepS 274 (.plain rfl (.indexN 26 (o1.1.toNat) rfl (.of rfl) (.of rfl) rfl Own.view rfl Try.underlying79 T.sz3 (by have := (hasT_get has1).1; omega) (snd_get (getT (hasT_get has1).2.1)))) rfl rfl ?_
                      refine TrL.storeO 26 (o1.1.toNat) 0 (z' := -1) rfl rfl rfl (.of rfl) (.of rfl) (L.hR1 (L.h1is rfl rfl)) rfl rfl (snd_get (getT (hasT_get has1).2.1)) rfl rfl T.sz3 ?_
                      refine TrL.nil ?_
                      refine Fin.keepG (Γ' := [(4, _), (5, _), (6, _), (7, _), (8, _), (9, _), (12, _), (36, _), (37, _), (38, _)]) (.same rfl (.same rfl (.same rfl (.same rfl (.same rfl (.same rfl (.same rfl (.same rfl (.same rfl (.same rfl .nil)))))))))) ?_
                      refine Fin.next ?_
                      refine Tr.region ?_
                      refine TrL.stepS 275 (.plain rfl (.move rfl (.of rfl))) rfl rfl ?_
                      refine TrL.stepS 276 (.plain rfl (.addI L.bd_i64 rfl (.of rfl) (.of rfl) (by omega) (by omega))) rfl rfl ?_
                      refine TrL.stepS 8 (.plain rfl (.assign rfl (.of rfl))) rfl rfl ?_
                      refine TrL.nil ?_
                      refine Fin.keepG (Γ' := [(4, _), (5, _), (6, _), (7, _), (8, _), (9, _), (12, _), (36, _), (37, _), (38, _)]) (.same rfl (.same rfl (.same rfl (.same rfl (.same rfl (.same rfl (.same rfl (.same rfl (.same rfl (.same rfl .nil)))))))))) ?_
                      refine Fin.blockNormal ?_
                      exact Fin.reach ((freeMs m [o1], v, vt, vn, w0)) (free_T1 hF has1) (.same rfl (.cons rfl (fun F L w h => by rw [free1, if_pos has1] at h; rw [← off_T ts o1 (hasT_get has1).2.1]; exact h) (.cons rfl (fun F L w h => by rw [free1, if_pos has1] at h; exact h) (.same rfl (.same rfl (.cons rfl (fun F L w h => by rw [off_fst]; exact h) (.cons rfl (fun F L w h => by unfold offT; rw [List.map_set]; exact h) (.same rfl (.same rfl (.same rfl (.same rfl .nil))))))))))) (.eq rfl (by first | rfl | (congr 1; first | done | omega | (push_cast; omega) | (push_cast; rfl))) (.eq rfl (by first | rfl | (congr 1; first | done | omega | (push_cast; omega) | (push_cast; rfl))) (.same rfl (.same rfl (.same rfl (.same rfl (.same rfl (.same rfl (.same rfl (.same rfl .nil))))))))))
                    · try simp only [decide_eq_true_eq, decide_eq_false_iff_not, beq_iff_eq, beq_eq_false_iff_ne, bne_iff_ne, bne_eq_false_iff_eq, Bool.and_eq_true, Bool.and_eq_false_iff, Bool.or_eq_true, Bool.or_eq_false_iff, Bool.not_eq_true', Bool.not_eq_false', gt_iff_lt, ge_iff_le, Int.not_lt, Int.not_le, ne_eq, Int.natCast_nonneg, true_and, and_true, Decidable.not_not, not_true_eq_false, not_false_eq_true] at hb13
                      have hno1 : ¬ hasT ts o1.1 o1.2 = true := fun h => by have h' := hb13; rw [free1, if_pos h] at h'; omega
                      obtain ⟨rfl, rfl, rfl⟩ : ts = ts2 ∧ told = told2 ∧ fd = fd2 := by
                        have hs' := hs
                        unfold stepG at hs'
                        dsimp only at hs'
                        rw [if_neg (show ¬ q.1 % 6 ≤ 1 by omega), if_neg (show ¬ q.1 % 6 = 2 by omega), if_neg (show ¬ q.1 % 6 = 3 by omega), if_pos (show q.1 % 6 = 4 by omega), ← ho1, if_neg hno1] at hs'
                        cases hs'; exact ⟨rfl, rfl, rfl⟩
                      refine Tr.skip ?_
                      refine Fin.blockNormal ?_
                      exact Fin.reach ((m, v, vt, vn, w0)) (hF) (.same rfl (.cons rfl (fun F L w h => by rw [free1, if_neg hno1] at h; exact h) (.cons rfl (fun F L w h => by rw [free1, if_neg hno1] at h; exact h) (.same rfl (.same rfl (.same rfl (.same rfl (.same rfl (.same rfl (.same rfl (.same rfl .nil))))))))))) (.eq rfl (by first | rfl | (congr 1; first | done | omega | (push_cast; omega) | (push_cast; rfl))) (.eq rfl (by first | rfl | (congr 1; first | done | omega | (push_cast; omega) | (push_cast; rfl))) (.same rfl (.same rfl (.same rfl (.same rfl (.same rfl (.same rfl (.same rfl (.same rfl .nil))))))))))
                · try simp only [decide_eq_true_eq, decide_eq_false_iff_not, beq_iff_eq, beq_eq_false_iff_ne, bne_iff_ne, bne_eq_false_iff_eq, Bool.and_eq_true, Bool.and_eq_false_iff, Bool.or_eq_true, Bool.or_eq_false_iff, Bool.not_eq_true', Bool.not_eq_false', gt_iff_lt, ge_iff_le, Int.not_lt, Int.not_le, ne_eq, Int.natCast_nonneg, true_and, and_true, Decidable.not_not, not_true_eq_false, not_false_eq_true] at hb11
                  refine Tr.seq ?_
                  refine Tr.region ?_
                  refine TrL.stepS 70 (.plain rfl (.move rfl (.of rfl))) rfl rfl ?_
                  refine TrL.stepS 71 (.plain rfl (.loadBN 30 (k := 2) (ds := [_, _]) rfl (.of rfl) rfl rfl rfl T.ag75 rfl)) rfl rfl ?_
                  refine TrL.stepS 72 (.plain rfl (.loadBN 31 (k := 2) (ds := [_, _]) rfl (.of rfl) rfl rfl rfl T.ag75 rfl)) rfl rfl ?_
                  refine TrL.stepS 73 (.plain rfl (.slice (K := handR) (xs := [_, _]) rfl (.cons (.map (.of rfl) (handR_elem _ _)) (.cons (.map (.of rfl) (handR_elem _ _)) .nil)) Try.underlying78 T.sz75 T.zb75 rfl (by decide))) rfl rfl ?_
                  refine TrL.callG [20] [21, 22] [21, 22] rfl rfl 74 rfl rfl (F45 g0.1 v g0.2 m (esOf ts) hF hoe hel [o1, o2] (by simp)) (.cons (.of rfl) (.cons (.of rfl) .nil)) (.same rfl (.same rfl (.same rfl .nil))) rfl rfl (fun _ => rfl) fun _ => ?_
                  refine TrL.stepS 22 (.plain rfl (.assign rfl (.of rfl))) rfl rfl ?_
                  refine TrL.nil ?_
                  refine Fin.keepG (Γ' := [(4, _), (5, _), (6, _), (7, _), (8, _), (9, _), (12, _), (13, _), (14, _), (22, _), (36, _), (37, _), (38, _)]) (.same rfl (.same rfl (.same rfl (.same rfl (.same rfl (.same rfl (.same rfl (.same rfl (.same rfl (.same rfl (.same rfl (.same rfl (.same rfl .nil))))))))))))) ?_
                  refine Fin.next ?_
                  refine Tr.seq ?_
                  refine Tr.region ?_
                  refine TrL.stepS 75 (.plain rfl (.move rfl (.of rfl))) rfl rfl ?_
                  refine TrL.stepS 76 (.plain rfl (.loadBN 30 (k := 2) (ds := [_, _]) rfl (.of rfl) rfl rfl rfl T.ag75 rfl)) rfl rfl ?_
                  refine TrL.stepS 77 (.plain rfl (.callRg (first := []) (caps := [_, _]) [23, 25, 24, 26] rfl (.of rfl) (F51 b23 b24 vt vn ts (by omega) o1.1 o1.2) (.cons (.of rfl) .nil) (.same rfl (.cons rfl L.Own.view (.same rfl (.cons rfl L.Own.view .nil)))) rfl)) rfl rfl ?_
                  refine TrL.stepS 78 (.plain rfl (.move rfl (.of rfl))) rfl rfl ?_
                  refine TrL.stepS 79 (.guarded rfl rfl rfl fun hg => .move rfl (.of rfl)) rfl rfl ?_
                  refine TrL.stepS 80 (.guarded rfl rfl rfl fun hg => .loadBN 31 (k := 2) (ds := [_, _]) rfl (.of rfl) rfl rfl rfl T.ag75 rfl) rfl rfl ?_
                  refine TrL.stepS 81 (.guarded rfl rfl rfl fun hg => .callRg (first := []) (caps := [_, _]) [23, 25, 24, 26] rfl (.cond rfl hg) (F51 b23 b24 vt vn ts (by omega) o2.1 o2.2) (.cons (.cond rfl hg) .nil) (.same rfl (.cons rfl L.Own.view (.same rfl (.cons rfl L.Own.view .nil)))) rfl) rfl rfl ?_
                  refine TrL.stepS 82 (.plain rfl (.and rfl (.of rfl) (.cond rfl fun h => h))) rfl rfl ?_
                  refine TrL.stepS 83 (.plain rfl (.move rfl (.of rfl))) rfl rfl ?_
                  refine TrL.stepS 84 (.guarded rfl rfl rfl fun hg => .loadBN 30 (k := 2) (ds := [_, _]) rfl (.of rfl) rfl rfl rfl T.ag75 rfl) rfl rfl ?_
                  refine TrL.stepS 85 (.guarded rfl rfl rfl fun hg => .loadBN 31 (k := 2) (ds := [_, _]) rfl (.of rfl) rfl rfl rfl T.ag75 rfl) rfl rfl ?_
                  refine TrL.stepS 86 (.guarded rfl rfl rfl fun hg => .neqS rfl (.cond rfl hg) (.cond rfl hg) (by kernel_rfl) (T.eq75 _ _ _ _)) rfl rfl ?_
                  refine TrL.stepS 87 (.plain rfl (.and rfl (.of rfl) (.cond rfl fun h => h))) rfl rfl ?_
                  refine TrL.stepS 23 (.plain rfl (.assign rfl (.of rfl))) rfl rfl ?_
                  refine TrL.nil ?_
                  refine Fin.keepG (Γ' := [(4, _), (5, _), (6, _), (7, _), (8, _), (9, _), (12, _), (13, _), (14, _), (22, _), (23, _), (36, _), (37, _), (38, _)]) (.same rfl (.same rfl (.same rfl (.same rfl (.same rfl (.same rfl (.same rfl (.same rfl (.same rfl (.same rfl (.same rfl (.same rfl (.same rfl (.same rfl .nil)))))))))))))) ?_
                  refine Fin.next ?_
                  refine Tr.seq ?_
                  refine Tr.seq ?_
                  refine Tr.region ?_
                  refine TrL.stepS 88 (.plain rfl (.move rfl (.of rfl))) rfl rfl ?_
                  refine TrL.stepS 89 (.plain rfl (.move rfl (.of rfl))) rfl rfl ?_
                  refine TrL.stepS 90 (.plain rfl (.eql rfl (.of rfl) (.of rfl))) rfl rfl ?_
                  refine TrL.stepS 91 (.plain rfl (.neqB rfl (.of rfl) (.of rfl) Try.underlying4)) rfl rfl ?_
                  refine TrL.stepS 92 (.plain rfl (.move rfl (.of rfl))) rfl rfl ?_
                  refine TrL.stepS 93 (.guarded rfl rfl rfl fun hg => .move rfl (.of rfl)) rfl rfl ?_
                  refine TrL.stepS 94 (.guarded rfl rfl rfl fun hg => .neq rfl (.cond rfl hg) (.of rfl)) rfl rfl ?_
                  refine TrL.stepS 95 (.guarded rfl rfl rfl fun hg => .move rfl (.cond rfl hg)) rfl rfl ?_
                  refine TrL.stepS 96 (.guarded2 rfl rfl rfl fun hp hg => .move rfl (.of rfl)) rfl rfl ?_
                  refine TrL.stepS 97 (.guarded2 rfl rfl rfl fun hp hg => .neq rfl (.cond rfl ⟨hp, hg⟩) (.of rfl)) rfl rfl ?_
                  refine TrL.stepS 98 (.guarded rfl rfl rfl fun hg => .and rfl (.cond rfl hg) (.cond rfl fun h => ⟨hg, h⟩)) rfl rfl ?_
                  refine TrL.stepS 99 (.plain rfl (.or rfl (.of rfl) (.cond rfl fun h => h))) rfl rfl ?_
                  refine TrL.nil ?_
                  refine Fin.keepG (Γ' := [(4, _), (5, _), (6, _), (7, _), (8, _), (9, _), (12, _), (13, _), (14, _), (23, _), (36, _), (37, _), (38, _), (99, _)]) (.same rfl (.same rfl (.same rfl (.same rfl (.same rfl (.same rfl (.same rfl (.same rfl (.same rfl (.same rfl (.same rfl (.same rfl (.same rfl (.same rfl .nil)))))))))))))) ?_
                  refine Fin.next ?_
                  refine Tr.cond rfl (fun hb14 => ?_) (fun hb14 => ?_)
                  · try simp only [decide_eq_true_eq, decide_eq_false_iff_not, beq_iff_eq, beq_eq_false_iff_ne, bne_iff_ne, bne_eq_false_iff_eq, Bool.and_eq_true, Bool.and_eq_false_iff, Bool.or_eq_true, Bool.or_eq_false_iff, Bool.not_eq_true', Bool.not_eq_false', gt_iff_lt, ge_iff_le, Int.not_lt, Int.not_le, ne_eq, Int.natCast_nonneg, true_and, and_true, Decidable.not_not, not_true_eq_false, not_false_eq_true] at hb14
                    exfalso; rw [free2] at hb14; cases hh : hasT ts o1.1 o1.2 <;> cases hh2 : hasT ts o2.1 o2.2 <;> by_cases he : o1 = o2 <;> simp [hh, hh2, he] at hb14 <;> first | exact absurd (Prod.ext hb14.1 hb14.2) he | (simp_all; done) | (simp_all; exact absurd (Prod.ext hb14.1 hb14.2) he)
                  · have hr14 := hb14; try simp only [decide_eq_true_eq, decide_eq_false_iff_not, beq_iff_eq, beq_eq_false_iff_ne, bne_iff_ne, bne_eq_false_iff_eq, Bool.and_eq_true, Bool.and_eq_false_iff, Bool.or_eq_true, Bool.or_eq_false_iff, Bool.not_eq_true', Bool.not_eq_false', gt_iff_lt, ge_iff_le, Int.not_lt, Int.not_le, ne_eq, Int.natCast_nonneg, true_and, and_true, Decidable.not_not, not_true_eq_false, not_false_eq_true] at hb14
                    refine Tr.skip ?_
                    refine Fin.next ?_
                    refine Tr.seq ?_
                    refine Tr.region ?_
                    refine TrL.stepS 101 (.plain rfl (.move rfl (.of rfl))) rfl rfl ?_
                    refine TrL.nil ?_
                    refine Fin.keepG (Γ' := [(4, _), (5, _), (6, _), (7, _), (8, _), (9, _), (12, _), (13, _), (14, _), (36, _), (37, _), (38, _), (101, _)]) (.same rfl (.same rfl (.same rfl (.same rfl (.same rfl (.same rfl (.same rfl (.same rfl (.same rfl (.same rfl (.same rfl (.same rfl (.same rfl .nil))))))))))))) ?_
                    refine Fin.next ?_
                    refine Tr.cond rfl (fun hb15 => ?_) (fun hb15 => ?_)
                    · try simp only [decide_eq_true_eq, decide_eq_false_iff_not, beq_iff_eq, beq_eq_false_iff_ne, bne_iff_ne, bne_eq_false_iff_eq, Bool.and_eq_true, Bool.and_eq_false_iff, Bool.or_eq_true, Bool.or_eq_false_iff, Bool.not_eq_true', Bool.not_eq_false', gt_iff_lt, ge_iff_le, Int.not_lt, Int.not_le, ne_eq, Int.natCast_nonneg, true_and, and_true, Decidable.not_not, not_true_eq_false, not_false_eq_true] at hb15
                      have has1 : hasT ts o1.1 o1.2 = true := hb15.1.1
                      have has2 : hasT ts o2.1 o2.2 = true := hb15.1.2
                      have hne : o1 ≠ o2 := by
                        have h' := hb15.2
                        rintro rfl
                        simp at h'
                      obtain ⟨rfl, rfl, rfl⟩ : offT (offT ts o1) o2 = ts2 ∧ told = told2 ∧ fd + 2 = fd2 := by
                        have hs' := hs
                        unfold stepG at hs'
                        dsimp only at hs'
                        rw [if_neg (show ¬ q.1 % 6 ≤ 1 by omega), if_neg (show ¬ q.1 % 6 = 2 by omega), if_neg (show ¬ q.1 % 6 = 3 by omega), if_neg (show ¬ q.1 % 6 = 4 by omega), ← ho1, ← ho2, if_pos ⟨⟨has1, has2⟩, hne⟩] at hs'
                        cases hs'; exact ⟨rfl, rfl, rfl⟩
                      refine Tr.seq ?_
                      refine Tr.regionW [([24], [], []), ([30], [], []), ([30], [], []), ([24], [], []), ([31], [], []), ([31], [], []), ([26], [], []), ([26], [26], []), ([26], [], []), ([26], [26], [])] T.mixed (by kernel_rfl) (by kernel_rfl) (by kernel_rfl) (by kernel_rfl) ?_
                      refine AChain.rd 102 rfl (fun σ => .plain rfl (.loadR 24 rfl (.of rfl) rfl rfl rfl T.sc79)) rfl rfl (fun _ _ => rfl) (L.Dep.const) ?_
                      refine AChain.rd 103 rfl (fun σ => .plain rfl (.fieldP rfl (.of rfl) T.fl75_0)) rfl rfl (fun _ _ => rfl) (L.Dep.const) ?_
                      refine AChain.rd 104 rfl (fun σ => .plain rfl (.loadB 30 rfl (.of rfl) rfl rfl rfl T.sc3)) rfl rfl (fun _ _ => rfl) (L.Dep.const) ?_
                      refine AChain.rd 105 rfl (fun σ => .plain rfl (.loadR 24 rfl (.of rfl) rfl rfl rfl T.sc79)) rfl rfl (fun _ _ => rfl) (L.Dep.const) ?_
                      refine AChain.rd 106 rfl (fun σ => .plain rfl (.fieldP rfl (.of rfl) T.fl75_0)) rfl rfl (fun _ _ => rfl) (L.Dep.const) ?_
                      refine AChain.rd 107 rfl (fun σ => .plain rfl (.loadB 31 rfl (.of rfl) rfl rfl rfl T.sc3)) rfl rfl (fun _ _ => rfl) (L.Dep.const) ?_
                      refine AChain.rd 108 rfl (fun σ => .plain rfl (.indexN 26 (o1.1.toNat) rfl (.of rfl) (.of rfl) rfl Own.view rfl Try.underlying79 T.sz3 (by have := (hasT_get has1).1; omega) (snd_get (getT (hasT_get has1).2.1)))) rfl rfl (fun _ _ => rfl) (L.Dep.const) ?_
                      refine AChain.wr1 26 rfl rfl rfl rfl (fun w0 κ0 σ => TrL.storeO 26 (o1.1.toNat) 0 (z' := -1) rfl rfl rfl (.of rfl) (.of rfl) (L.hR1 (L.h1is rfl rfl)) rfl rfl (snd_get (getT (hasT_get has1).2.1)) rfl rfl T.sz3 (TrL.done0 (.free rfl .nil))) ?_
                      refine AChain.rd 109 rfl (fun σ => .plain rfl (.indexN 26 (o2.1.toNat) rfl (.of rfl) (.of rfl) rfl Own.view rfl Try.underlying79 T.sz3 (by have := (hasT_get has2).1; omega) (List.getElem?_eq_getElem (show o2.1.toNat < ((ts.map (·.2)).set o1.1.toNat (-1)).length by rw [List.length_set]; have := (hasT_get has2).2.1; omega)))) rfl rfl (fun _ _ => rfl) (L.Dep.const) ?_
                      refine AChain.wr1 26 rfl rfl rfl rfl (fun w0 κ0 σ => TrL.storeO 26 (o2.1.toNat) 0 (z' := -1) rfl rfl rfl (.of rfl) (.of rfl) (L.hR1 (L.h1is rfl rfl)) rfl rfl (List.getElem?_eq_getElem (show o2.1.toNat < ((ts.map (·.2)).set o1.1.toNat (-1)).length by rw [List.length_set]; have := (hasT_get has2).2.1; omega)) rfl rfl T.sz3 (TrL.done0 (.free rfl .nil))) ?_
                      refine AChain.nil ?_
                      intro s18
                      refine Fin.keepG (Γ' := [(4, _), (5, _), (6, _), (7, _), (8, _), (9, _), (12, _), (36, _), (37, _), (38, _)]) (.same rfl (.same rfl (.same rfl (.same rfl (.same rfl (.same rfl (.same rfl (.same rfl (.same rfl (.same rfl .nil)))))))))) ?_
                      refine Fin.next ?_
                      refine Tr.region ?_
                      refine TrL.stepS 110 (.plain rfl (.move rfl (.of rfl))) rfl rfl ?_
                      refine TrL.stepS 111 (.plain rfl (.addI L.bd_i64 rfl (.of rfl) (.of rfl) (by omega) (by omega))) rfl rfl ?_
                      refine TrL.stepS 8 (.plain rfl (.assign rfl (.of rfl))) rfl rfl ?_
                      refine TrL.nil ?_
                      refine Fin.keepG (Γ' := [(4, _), (5, _), (6, _), (7, _), (8, _), (9, _), (12, _), (36, _), (37, _), (38, _)]) (.same rfl (.same rfl (.same rfl (.same rfl (.same rfl (.same rfl (.same rfl (.same rfl (.same rfl (.same rfl .nil)))))))))) ?_
                      refine Fin.blockNormal ?_
                      exact Fin.reach ((freeMs m [o1, o2], v, vt, vn, w0)) (free_T2 hF has1 has2) (.same rfl (.cons rfl (fun F L w h => by rw [free2, has1, has2, if_pos (by simpa using hne)] at h; rw [← off_T (offT ts o1) o2 (by unfold offT; rw [List.length_set]; exact (hasT_get has2).2.1), ← off_T ts o1 (hasT_get has1).2.1]; exact h) (.cons rfl (fun F L w h => by rw [free2, has1, has2, if_pos (by simpa using hne)] at h; exact h) (.same rfl (.same rfl (.cons rfl (fun F L w h => by rw [off_fst, off_fst]; exact h) (.cons rfl (fun F L w h => by unfold offT; rw [List.map_set, List.map_set]; exact h) (.same rfl (.same rfl (.same rfl (.same rfl .nil))))))))))) (.eq rfl (by first | rfl | (congr 1; first | done | omega | (push_cast; omega) | (push_cast; rfl))) (.eq rfl (by first | rfl | (congr 1; first | done | omega | (push_cast; omega) | (push_cast; rfl))) (.same rfl (.same rfl (.same rfl (.same rfl (.same rfl (.same rfl (.same rfl (.same rfl .nil))))))))))
                    · try simp only [decide_eq_true_eq, decide_eq_false_iff_not, beq_iff_eq, beq_eq_false_iff_ne, bne_iff_ne, bne_eq_false_iff_eq, Bool.and_eq_true, Bool.and_eq_false_iff, Bool.or_eq_true, Bool.or_eq_false_iff, Bool.not_eq_true', Bool.not_eq_false', gt_iff_lt, ge_iff_le, Int.not_lt, Int.not_le, ne_eq, Int.natCast_nonneg, true_and, and_true, Decidable.not_not, not_true_eq_false, not_false_eq_true] at hb15
                      have hnob : ¬ ((hasT ts o1.1 o1.2 = true ∧ hasT ts o2.1 o2.2 = true) ∧ o1 ≠ o2) := by
                        intro h
                        have h' := hb15
                        have hne : ¬ (o1.1 = o2.1 ∧ o1.2 = o2.2) := fun e => h.2 (Prod.ext e.1 e.2)
                        simp [h.1.1, h.1.2] at h'
                        exact hne h'
                      obtain ⟨rfl, rfl, rfl⟩ : ts = ts2 ∧ told = told2 ∧ fd = fd2 := by
                        have hs' := hs
                        unfold stepG at hs'
                        dsimp only at hs'
                        rw [if_neg (show ¬ q.1 % 6 ≤ 1 by omega), if_neg (show ¬ q.1 % 6 = 2 by omega), if_neg (show ¬ q.1 % 6 = 3 by omega), if_neg (show ¬ q.1 % 6 = 4 by omega), ← ho1, ← ho2, if_neg hnob] at hs'
                        cases hs'; exact ⟨rfl, rfl, rfl⟩
                      refine Tr.skip ?_
                      refine Fin.blockNormal ?_
                      exact Fin.reach ((m, v, vt, vn, w0)) (hF) (.same rfl (.cons rfl (fun F L w h => by rw [free2, if_neg (fun e => hnob (by simpa using e))] at h; exact h) (.cons rfl (fun F L w h => by rw [free2, if_neg (fun e => hnob (by simpa using e))] at h; exact h) (.same rfl (.same rfl (.same rfl (.same rfl (.same rfl (.same rfl (.same rfl (.same rfl .nil))))))))))) (.eq rfl (by first | rfl | (congr 1; first | done | omega | (push_cast; omega) | (push_cast; rfl))) (.eq rfl (by first | rfl | (congr 1; first | done | omega | (push_cast; omega) | (push_cast; rfl))) (.same rfl (.same rfl (.same rfl (.same rfl (.same rfl (.same rfl (.same rfl (.same rfl .nil))))))))))
      case jk51 =>
        intro p hF2
        obtain ⟨m', v', vt', vn', w'⟩ := p
        dsimp only at hF2 ⊢
        refine Tr.seq ?_
        refine Tr.region ?_
        refine TrL.stepS 277 (.plain rfl (.move rfl (.of rfl))) rfl rfl ?_
        refine TrL.stepS 278 (.plain rfl (.callR [20, 21, 22] rfl (F53 g0.1 v' g0.2 m' (esOf ts2) hF2 hoe2 hel2) (.cons (.of rfl) .nil) (.same rfl (.same rfl (.same rfl .nil))) rfl)) rfl rfl ?_
        refine TrL.stepS 24 (.plain rfl (.assign rfl (.of rfl))) rfl rfl ?_
        refine TrL.nil ?_
        refine Fin.keepG (Γ' := [(4, _), (5, _), (6, _), (7, _), (8, _), (9, _), (12, _), (24, _), (36, _), (37, _), (38, _)]) (.same rfl (.same rfl (.same rfl (.same rfl (.same rfl (.same rfl (.same rfl (.same rfl (.same rfl (.same rfl (.same rfl .nil))))))))))) ?_
        refine Fin.next ?_
        refine Tr.seq ?_
        refine Tr.region ?_
        refine TrL.stepS 25 (.plain rfl (.assign rfl (.of rfl))) rfl rfl ?_
        refine TrL.nil ?_
        refine Fin.next ?_
        refine Tr.seq ?_
        refine Tr.seq ?_
        refine Tr.region ?_
        refine TrL.stepS 279 (.plain rfl (.loadR 24 rfl (.of rfl) rfl rfl rfl T.sc79)) rfl rfl ?_
        refine TrL.stepS 280 (.plain rfl (.lenV 26 rfl (.of rfl) rfl Own.view rfl Try.underlying79)) rfl rfl ?_
        refine TrL.stepS 281 (.plain rfl (.move rfl (.of rfl))) rfl rfl ?_
        refine TrL.nil ?_
        refine Fin.next ?_
        refine Tr.block ?_
        refine Tr.loopK (γ := Nat) (Γk := [(4, _), (5, _), (6, _), (7, _), (8, _), (9, _), (12, _), (24, _), (36, _), (37, _), (38, _), (279, _), (280, _)]) (Mk := [(28, _), (30, _), (31, _), (20, _), (21, _), (22, _), (23, _), (24, _), (25, _), (26, _), (27, _)]) (.same rfl (.same rfl (.same rfl (.same rfl (.same rfl (.same rfl (.same rfl (.same rfl (.same rfl (.same rfl (.same rfl (.same rfl (.same rfl .nil))))))))))))) (.same rfl (.same rfl (.same rfl (.same rfl (.same rfl (.same rfl (.same rfl (.same rfl (.same rfl (.same rfl (.same rfl .nil))))))))))) (fun j => j ≤ ts2.length) (fun j => fun r => r) (fun j => fun r => (25, is (.int .i64 ((usedL (esOf (ts2.take j))).length : Nat))) :: (281, is (.int .i64 j)) :: r) (fun j => ts2.length - j) (0) ?h0_2 ?hM_2 ?hG_2 ?hl_2
        case h0_2 => exact Nat.zero_le _
        case hM_2 => exact (.same rfl (.same rfl (.same rfl (.same rfl (.same rfl (.same rfl (.same rfl (.same rfl (.same rfl (.same rfl (.same rfl .nil)))))))))))
        case hG_2 => exact (.eq rfl (by rfl) (.eq rfl (by first | rfl | (congr 1; first | done | omega | (push_cast; omega) | (push_cast; rfl))) (.same rfl (.same rfl (.same rfl (.same rfl (.same rfl (.same rfl (.same rfl (.same rfl (.same rfl (.same rfl (.same rfl (.same rfl (.same rfl .nil)))))))))))))))
        case hl_2 =>
          intro j hj
          refine Tr.seq ?_
          refine Tr.region ?_
          refine TrL.stepS 282 (.plain rfl (.lss rfl (.of rfl) (.of rfl))) rfl rfl ?_
          refine TrL.nil ?_
          refine Fin.next ?_
          refine Tr.seq ?_
          refine Tr.cond rfl (fun hb16 => ?_) (fun hb16 => ?_)
          · try simp only [decide_eq_true_eq, decide_eq_false_iff_not, beq_iff_eq, beq_eq_false_iff_ne, bne_iff_ne, bne_eq_false_iff_eq, Bool.and_eq_true, Bool.and_eq_false_iff, Bool.or_eq_true, Bool.or_eq_false_iff, Bool.not_eq_true', Bool.not_eq_false', gt_iff_lt, ge_iff_le, Int.not_lt, Int.not_le, ne_eq, Int.natCast_nonneg, true_and, and_true, Decidable.not_not, not_true_eq_false, not_false_eq_true] at hb16
            obtain ⟨y, hy⟩ := ex_get (xs := ts2) (i := j) (by omega)
            have hyb := hinv2.get hy
            have hsn := usedT_snoc (ts2.take j) y
            rw [← take_snoc hy, List.length_take, show min j ts2.length = j by omega] at hsn
            refine Tr.skip ?_
            refine Fin.next ?_
            refine Tr.seqJK (γ := Unit) (Γk := [(4, _), (5, _), (6, _), (7, _), (8, _), (9, _), (12, _), (24, _), (36, _), (37, _), (38, _), (279, _), (280, _), (281, _)]) (Mk := [(28, _), (30, _), (31, _), (20, _), (21, _), (22, _), (23, _), (24, _), (25, _), (26, _), (27, _)]) (.same rfl (.same rfl (.same rfl (.same rfl (.same rfl (.same rfl (.same rfl (.same rfl (.same rfl (.same rfl (.same rfl (.same rfl (.same rfl (.same rfl .nil)))))))))))))) (.same rfl (.same rfl (.same rfl (.same rfl (.same rfl (.same rfl (.same rfl (.same rfl (.same rfl (.same rfl (.same rfl .nil))))))))))) (fun _ => True) (fun _ => fun r => r) (fun _ => fun r => (25, is (.int .i64 ((usedL (esOf (ts2.take (j + 1)))).length : Nat))) :: r) ?jx63 ?jk63
            case jx63 =>
              refine Tr.block ?_
              refine Tr.seq ?_
              refine Tr.region ?_
              refine TrL.stepS 283 (.plain rfl (.move rfl (.of rfl))) rfl rfl ?_
              refine TrL.stepS 284 (.plain rfl (.indexN 26 (j) rfl (.of rfl) (.of rfl) rfl Own.view rfl Try.underlying79 T.sz3 (by omega) (snd_get hy))) rfl rfl ?_
              refine TrL.stepS 285 (.plain rfl (.loadW 26 (j) 0 rfl (.of rfl) rfl Own.view rfl (snd_get hy) rfl T.sc3)) rfl rfl ?_
              refine TrL.stepS 26 (.plain rfl (.assign rfl (.of rfl))) rfl rfl ?_
              refine TrL.stepS 27 (.plain rfl (.assign rfl (.of rfl))) rfl rfl ?_
              refine TrL.nil ?_
              refine Fin.keepG (Γ' := [(4, _), (5, _), (6, _), (7, _), (8, _), (9, _), (12, _), (24, _), (25, _), (26, _), (27, _), (36, _), (37, _), (38, _), (279, _), (280, _), (281, _)]) (.same rfl (.same rfl (.same rfl (.same rfl (.same rfl (.same rfl (.same rfl (.same rfl (.same rfl (.same rfl (.same rfl (.same rfl (.same rfl (.same rfl (.same rfl (.same rfl (.same rfl .nil))))))))))))))))) ?_
              refine Fin.next ?_
              refine Tr.seq ?_
              refine Tr.seq ?_
              refine Tr.region ?_
              refine TrL.stepS 286 (.plain rfl (.move rfl (.of rfl))) rfl rfl ?_
              refine TrL.stepS 287 (.plain rfl (.lss rfl (.of rfl) (.of rfl))) rfl rfl ?_
              refine TrL.nil ?_
              refine Fin.keepG (Γ' := [(4, _), (5, _), (6, _), (7, _), (8, _), (9, _), (12, _), (24, _), (25, _), (26, _), (27, _), (36, _), (37, _), (38, _), (279, _), (280, _), (281, _), (287, _)]) (.same rfl (.same rfl (.same rfl (.same rfl (.same rfl (.same rfl (.same rfl (.same rfl (.same rfl (.same rfl (.same rfl (.same rfl (.same rfl (.same rfl (.same rfl (.same rfl (.same rfl (.same rfl .nil)))))))))))))))))) ?_
              refine Fin.next ?_
              refine Tr.cond rfl (fun hb17 => ?_) (fun hb17 => ?_)
              · try simp only [decide_eq_true_eq, decide_eq_false_iff_not, beq_iff_eq, beq_eq_false_iff_ne, bne_iff_ne, bne_eq_false_iff_eq, Bool.and_eq_true, Bool.and_eq_false_iff, Bool.or_eq_true, Bool.or_eq_false_iff, Bool.not_eq_true', Bool.not_eq_false', gt_iff_lt, ge_iff_le, Int.not_lt, Int.not_le, ne_eq, Int.natCast_nonneg, true_and, and_true, Decidable.not_not, not_true_eq_false, not_false_eq_true] at hb17
                refine Tr.exit ?_
                refine Fin.thenExit ?_
                refine Fin.blockOut ?_
                exact Fin.reach (()) (trivial) (.same rfl (.same rfl (.same rfl (.same rfl (.same rfl (.same rfl (.same rfl (.same rfl (.same rfl (.same rfl (.same rfl .nil))))))))))) (.eq rfl (by rw [hsn, if_neg (by omega), List.append_nil]) (.same rfl (.same rfl (.same rfl (.same rfl (.same rfl (.same rfl (.same rfl (.same rfl (.same rfl (.same rfl (.same rfl (.same rfl (.same rfl (.same rfl .nil)))))))))))))))
              · try simp only [decide_eq_true_eq, decide_eq_false_iff_not, beq_iff_eq, beq_eq_false_iff_ne, bne_iff_ne, bne_eq_false_iff_eq, Bool.and_eq_true, Bool.and_eq_false_iff, Bool.or_eq_true, Bool.or_eq_false_iff, Bool.not_eq_true', Bool.not_eq_false', gt_iff_lt, ge_iff_le, Int.not_lt, Int.not_le, ne_eq, Int.natCast_nonneg, true_and, and_true, Decidable.not_not, not_true_eq_false, not_false_eq_true] at hb17
                have hua := usedT_at hy (by omega)
                have hul := getL_len hua
                have hut := usedT_len ts2
                have hlive := has_live hy (by omega)
                refine Tr.skip ?_
                refine Fin.next ?_
                refine Tr.seq ?_
                refine Tr.seq ?_
                refine Tr.regionK T.mixed (by kernel_rfl) (by kernel_rfl) ?_
                refine ChainK.consS 288 (.plain rfl (.move rfl (.of rfl))) rfl ?_
                refine ChainK.consS 289 (.plain rfl (.move rfl (.of rfl))) rfl ?_
                refine ChainK.consS 290 (.plain rfl (.len rfl (.of rfl) Try.underlying78)) rfl ?_
                refine ChainK.consS 291 (.plain rfl (.geq rfl (.of rfl) (.of rfl))) rfl ?_
                refine ChainK.consS 292 (.plain rfl (.move rfl (.of rfl))) rfl ?_
                refine ChainK.consS 293 (.guarded rfl rfl rfl fun hg => .move rfl (.of rfl)) rfl ?_
                refine ChainK.consS 294 (.guarded rfl rfl rfl fun hg => .move rfl (.of rfl)) rfl ?_
                refine ChainK.consS 295 (.guarded rfl rfl rfl fun hg => .indexE rfl (.cond rfl hg) (.cond rfl hg) Try.underlying78 T.sz75 (by first | omega | (simp at hg; omega) | (simp at hg hp; omega)) hua) rfl ?_
                refine ChainK.consS 296 (.guarded rfl rfl rfl fun hg => .load2 rfl (.cond rfl hg) T.ag75) rfl ?_
                refine ChainK.consS 297 (.guarded rfl rfl rfl fun hg => .move rfl (.of rfl)) rfl ?_
                refine ChainK.consS 298 (.guarded rfl rfl rfl fun hg => .loadR 23 rfl (.of rfl) rfl rfl rfl T.sc79) rfl ?_
                refine ChainK.consS 299 (.guarded rfl rfl rfl fun hg => .move rfl (.of rfl)) rfl ?_
                refine ChainK.consS 300 (.guarded rfl rfl rfl fun hg => .indexN 25 (j) rfl (.cond rfl hg) (.cond rfl hg) rfl Own.view rfl Try.underlying79 T.sz3 (by first | omega | (simp at hg; omega) | (simp at hg hp; omega)) (fst_get hy)) rfl ?_
                refine ChainK.consS 301 (.guarded rfl rfl rfl fun hg => .loadW 25 (j) 0 rfl (.cond rfl hg) rfl Own.view rfl (fst_get hy) rfl T.sc3) rfl ?_
                refine ChainK.consS 302 (.guarded rfl rfl rfl fun hg => .build rfl (.cons (.cond rfl hg) (.cons (.cond rfl hg) .nil)) (T.Y7bd75_0_1 _ _)) rfl ?_
                refine ChainK.consS 303 (.guarded rfl rfl rfl fun hg => .neqS rfl (.cond rfl hg) (.cond rfl hg) (by kernel_rfl) (T.eq75 _ _ _ _)) rfl ?_
                refine ChainK.consS 304 (.plain rfl (.or rfl (.of rfl) (.cond rfl fun h => h))) rfl ?_
                refine ChainK.nil ?_
                refine Fin.keepG (Γ' := [(4, _), (5, _), (6, _), (7, _), (8, _), (9, _), (12, _), (24, _), (25, _), (27, _), (36, _), (37, _), (38, _), (279, _), (280, _), (281, _), (304, _)]) (.same rfl (.same rfl (.same rfl (.same rfl (.same rfl (.same rfl (.same rfl (.same rfl (.same rfl (.same rfl (.same rfl (.same rfl (.same rfl (.same rfl (.same rfl (.same rfl (.same rfl .nil))))))))))))))))) ?_
                refine Fin.next ?_
                refine Tr.cond rfl (fun hb18 => ?_) (fun hb18 => ?_)
                · try simp only [decide_eq_true_eq, decide_eq_false_iff_not, beq_iff_eq, beq_eq_false_iff_ne, bne_iff_ne, bne_eq_false_iff_eq, Bool.and_eq_true, Bool.and_eq_false_iff, Bool.or_eq_true, Bool.or_eq_false_iff, Bool.not_eq_true', Bool.not_eq_false', gt_iff_lt, ge_iff_le, Int.not_lt, Int.not_le, ne_eq, Int.natCast_nonneg, true_and, and_true, Decidable.not_not, not_true_eq_false, not_false_eq_true] at hb18
                  exfalso; simp at hb18; omega
                · have hr18 := hb18; try simp only [decide_eq_true_eq, decide_eq_false_iff_not, beq_iff_eq, beq_eq_false_iff_ne, bne_iff_ne, bne_eq_false_iff_eq, Bool.and_eq_true, Bool.and_eq_false_iff, Bool.or_eq_true, Bool.or_eq_false_iff, Bool.not_eq_true', Bool.not_eq_false', gt_iff_lt, ge_iff_le, Int.not_lt, Int.not_le, ne_eq, Int.natCast_nonneg, true_and, and_true, Decidable.not_not, not_true_eq_false, not_false_eq_true] at hb18
                  refine Tr.skip ?_
                  refine Fin.next ?_
                  refine Tr.seq ?_
                  refine Tr.region ?_
                  refine TrL.stepS 307 (.plain rfl (.move rfl (.of rfl))) rfl rfl ?_
                  refine TrL.stepS 308 (.plain rfl (.move rfl (.of rfl))) rfl rfl ?_
                  refine TrL.stepS 309 (.plain rfl (.move rfl (.of rfl))) rfl rfl ?_
                  refine TrL.stepS 310 (.plain rfl (.indexE rfl (.of rfl) (.of rfl) Try.underlying78 T.sz75 (by omega) hua)) rfl rfl ?_
                  refine TrL.stepS 311 (.plain rfl (.load2 rfl (.of rfl) T.ag75)) rfl rfl ?_
                  refine TrL.stepS 312 (.plain rfl (.callR [20, 21, 22] rfl (F46 g0.1 v' g0.2 m' (esOf ts2) hF2 hoe2 hel2 j y.1) (.cons (.of rfl) (.cons (.of rfl) .nil)) (.same rfl (.same rfl (.same rfl .nil))) rfl)) rfl rfl ?_
                  refine TrL.stepS 306 (.plain rfl (.move rfl (.of rfl))) rfl rfl ?_
                  refine TrL.stepS 313 (.plain rfl (.extract rfl (.of rfl) rfl)) rfl rfl ?_
                  refine TrL.stepS 314 (.plain rfl (.extract rfl (.of rfl) rfl)) rfl rfl ?_
                  refine TrL.allocR 36 (zs := [.bool false, .slice none 0 0, .slice none 0 0, .slice none 0 0]) rfl rfl (by kernel_rfl) 28 rfl rfl rfl fun b36 => ?_
                  refine TrL.storeRW 36 rfl rfl rfl (.of rfl) (.of rfl) rfl rfl ((L.all1_cons (L.h1is rfl rfl) (L.all1_cons (L.h1lst) (L.all1_cons (L.h1lst) (L.all1_cons (L.h1lst) L.all1_nil))))) T.sz81 rfl ?_
                  refine TrL.stepS 29 (.plain rfl (.assign rfl (.of rfl))) rfl rfl ?_
                  refine TrL.nil ?_
                  refine Fin.keepG (Γ' := [(4, _), (5, _), (6, _), (7, _), (8, _), (9, _), (12, _), (24, _), (25, _), (27, _), (28, _), (29, _), (36, _), (37, _), (38, _), (279, _), (280, _), (281, _)]) (.same rfl (.same rfl (.same rfl (.same rfl (.same rfl (.same rfl (.same rfl (.same rfl (.same rfl (.same rfl (.same rfl (.same rfl (.same rfl (.same rfl (.same rfl (.same rfl (.same rfl (.same rfl .nil)))))))))))))))))) ?_
                  refine Fin.next ?_
                  refine Tr.seq ?_
                  refine Tr.seq ?_
                  refine Tr.regionK T.mixed (by kernel_rfl) (by kernel_rfl) ?_
                  refine ChainK.consS 315 (.plain rfl (.move rfl (.of rfl))) rfl ?_
                  refine ChainK.consS 316 (.plain rfl (.neq rfl (.of rfl) (.of rfl))) rfl ?_
                  refine ChainK.consS 317 (.plain rfl (.move rfl (.of rfl))) rfl ?_
                  refine ChainK.consS 318 (.guarded rfl rfl rfl fun hg => .loadRN 36 (k := 4) rfl (.of rfl) rfl rfl rfl T.ag81 rfl) rfl ?_
                  refine ChainK.consS 319 (.guarded rfl rfl rfl fun hg => .move rfl (.of rfl)) rfl ?_
                  refine ChainK.consS 320 (.guarded rfl rfl rfl fun hg => .conv rfl (.cond rfl hg) T.us3 Try.underlying5) rfl ?_
                  refine ChainK.consS 321 (.guarded rfl rfl rfl fun hg => .call rfl (F50 _ (wrap_u8 _)) (.cons (.cond rfl hg) .nil)) rfl ?_
                  refine ChainK.consS 322 (.guarded rfl rfl rfl fun hg => .call rfl (F49 _ _ (getE_ok hoe2 _ _) (nodeOf_ok _)) (.cons (.cond rfl hg) (.cons (.cond rfl hg) .nil))) rfl ?_
                  refine ChainK.consS 323 (.guarded rfl rfl rfl fun hg => .not rfl (.cond rfl hg)) rfl ?_
                  refine ChainK.consS 324 (.plain rfl (.or rfl (.of rfl) (.cond rfl fun h => h))) rfl ?_
                  refine ChainK.nil ?_
                  refine Fin.keepG (Γ' := [(4, _), (5, _), (6, _), (7, _), (8, _), (9, _), (12, _), (24, _), (25, _), (36, _), (37, _), (38, _), (279, _), (280, _), (281, _), (324, _)]) (.same rfl (.same rfl (.same rfl (.same rfl (.same rfl (.same rfl (.same rfl (.same rfl (.same rfl (.same rfl (.same rfl (.same rfl (.same rfl (.same rfl (.same rfl (.same rfl .nil)))))))))))))))) ?_
                  refine Fin.next ?_
                  refine Tr.cond rfl (fun hb19 => ?_) (fun hb19 => ?_)
                  · try simp only [decide_eq_true_eq, decide_eq_false_iff_not, beq_iff_eq, beq_eq_false_iff_ne, bne_iff_ne, bne_eq_false_iff_eq, Bool.and_eq_true, Bool.and_eq_false_iff, Bool.or_eq_true, Bool.or_eq_false_iff, Bool.not_eq_true', Bool.not_eq_false', gt_iff_lt, ge_iff_le, Int.not_lt, Int.not_le, ne_eq, Int.natCast_nonneg, true_and, and_true, Decidable.not_not, not_true_eq_false, not_false_eq_true] at hb19
                    exfalso; rw [err_T, if_pos hlive, get_T hlive, getD_live hy, wrap_u8_in (n := y.2) ⟨by omega, by omega⟩] at hb19; simp at hb19
                  · have hr19 := hb19; try simp only [decide_eq_true_eq, decide_eq_false_iff_not, beq_iff_eq, beq_eq_false_iff_ne, bne_iff_ne, bne_eq_false_iff_eq, Bool.and_eq_true, Bool.and_eq_false_iff, Bool.or_eq_true, Bool.or_eq_false_iff, Bool.not_eq_true', Bool.not_eq_false', gt_iff_lt, ge_iff_le, Int.not_lt, Int.not_le, ne_eq, Int.natCast_nonneg, true_and, and_true, Decidable.not_not, not_true_eq_false, not_false_eq_true] at hb19
                    refine Tr.skip ?_
                    refine Fin.next ?_
                    refine Tr.region ?_
                    refine TrL.stepS 326 (.plain rfl (.move rfl (.of rfl))) rfl rfl ?_
                    refine TrL.stepS 327 (.plain rfl (.addI L.bd_i64 rfl (.of rfl) (.of rfl) (by omega) (by omega))) rfl rfl ?_
                    refine TrL.stepS 25 (.plain rfl (.assign rfl (.of rfl))) rfl rfl ?_
                    refine TrL.nil ?_
                    refine Fin.keepG (Γ' := [(4, _), (5, _), (6, _), (7, _), (8, _), (9, _), (12, _), (24, _), (25, _), (36, _), (37, _), (38, _), (279, _), (280, _), (281, _)]) (.same rfl (.same rfl (.same rfl (.same rfl (.same rfl (.same rfl (.same rfl (.same rfl (.same rfl (.same rfl (.same rfl (.same rfl (.same rfl (.same rfl (.same rfl .nil))))))))))))))) ?_
                    refine Fin.blockNormal ?_
                    exact Fin.reach (()) (trivial) (.same rfl (.same rfl (.same rfl (.same rfl (.same rfl (.same rfl (.same rfl (.same rfl (.same rfl (.same rfl (.same rfl .nil))))))))))) (.eq rfl (by rw [hsn, if_pos (by omega), List.length_append]; push_cast; rfl) (.same rfl (.same rfl (.same rfl (.same rfl (.same rfl (.same rfl (.same rfl (.same rfl (.same rfl (.same rfl (.same rfl (.same rfl (.same rfl (.same rfl .nil)))))))))))))))
            case jk63 =>
              intro _ _
              refine Tr.region ?_
              first | refine TrL.stepS 328 (.plain rfl (.addI L.bd_i64 rfl (.of rfl) (.of rfl) (by omega) (by omega))) rfl rfl ?_ | refine TrL.stepS 328 (.plain rfl (.add rfl (.of rfl) (.of rfl))) rfl rfl ?_
              refine TrL.stepS 281 (.plain rfl (.move rfl (.of rfl))) rfl rfl ?_
              refine TrL.nil ?_
              refine Fin.keepG (Γ' := [(4, _), (5, _), (6, _), (7, _), (8, _), (9, _), (12, _), (24, _), (25, _), (36, _), (37, _), (38, _), (279, _), (280, _), (281, _)]) (.same rfl (.same rfl (.same rfl (.same rfl (.same rfl (.same rfl (.same rfl (.same rfl (.same rfl (.same rfl (.same rfl (.same rfl (.same rfl (.same rfl (.same rfl .nil))))))))))))))) ?_
              exact Fin.again (j + 1) (by omega) (by omega) (.same rfl (.same rfl (.same rfl (.same rfl (.same rfl (.same rfl (.same rfl (.same rfl (.same rfl (.same rfl (.same rfl .nil))))))))))) (.eq rfl (by rfl) (.eq rfl (by first | rfl | (congr 1; first | done | omega | (push_cast; omega) | (push_cast; rfl))) (.same rfl (.same rfl (.same rfl (.same rfl (.same rfl (.same rfl (.same rfl (.same rfl (.same rfl (.same rfl (.same rfl (.same rfl (.same rfl .nil)))))))))))))))
          · try simp only [decide_eq_true_eq, decide_eq_false_iff_not, beq_iff_eq, beq_eq_false_iff_ne, bne_iff_ne, bne_eq_false_iff_eq, Bool.and_eq_true, Bool.and_eq_false_iff, Bool.or_eq_true, Bool.or_eq_false_iff, Bool.not_eq_true', Bool.not_eq_false', gt_iff_lt, ge_iff_le, Int.not_lt, Int.not_le, ne_eq, Int.natCast_nonneg, true_and, and_true, Decidable.not_not, not_true_eq_false, not_false_eq_true] at hb16
            rw [List.take_of_length_le (show ts2.length ≤ j by omega)]
            refine Tr.exit ?_
            refine Fin.thenExit ?_
            refine Fin.thenExit ?_
            refine Fin.blockOut ?_
            refine Fin.next ?_
            refine Tr.seq ?_
            refine Tr.region ?_
            refine TrL.stepS 330 (.plain rfl (.move rfl (.of rfl))) rfl rfl ?_
            refine TrL.stepS 331 (.plain rfl (.callR [20, 21, 22] rfl (F47 g0.1 v' g0.2 m' (esOf ts2) hF2 hoe2 hel2) (.cons (.of rfl) .nil) (.same rfl (.same rfl (.same rfl .nil))) rfl)) rfl rfl ?_
            refine TrL.stepS 329 (.plain rfl (.move rfl (.of rfl))) rfl rfl ?_
            refine TrL.stepS 332 (.plain rfl (.extract rfl (.of rfl) rfl)) rfl rfl ?_
            refine TrL.stepS 333 (.plain rfl (.extract rfl (.of rfl) rfl)) rfl rfl ?_
            refine TrL.stepS 30 (.plain rfl (.assign rfl (.of rfl))) rfl rfl ?_
            refine TrL.stepS 31 (.plain rfl (.assign rfl (.of rfl))) rfl rfl ?_
            refine TrL.nil ?_
            refine Fin.keepG (Γ' := [(4, _), (5, _), (6, _), (7, _), (8, _), (9, _), (12, _), (24, _), (25, _), (30, _), (31, _), (36, _), (37, _), (38, _)]) (.same rfl (.same rfl (.same rfl (.same rfl (.same rfl (.same rfl (.same rfl (.same rfl (.same rfl (.same rfl (.same rfl (.same rfl (.same rfl (.same rfl .nil)))))))))))))) ?_
            refine Fin.next ?_
            refine Tr.seq ?_
            refine Tr.seq ?_
            refine Tr.region ?_
            refine TrL.stepS 334 (.plain rfl (.move rfl (.of rfl))) rfl rfl ?_
            refine TrL.stepS 335 (.plain rfl (.move rfl (.of rfl))) rfl rfl ?_
            refine TrL.stepS 336 (.plain rfl (.len rfl (.of rfl) Try.underlying78)) rfl rfl ?_
            refine TrL.stepS 337 (.plain rfl (.neq rfl (.of rfl) (.of rfl))) rfl rfl ?_
            refine TrL.stepS 338 (.plain rfl (.move rfl (.of rfl))) rfl rfl ?_
            refine TrL.stepS 339 (.guarded rfl rfl rfl fun hg => .move rfl (.of rfl)) rfl rfl ?_
            refine TrL.stepS 340 (.guarded rfl rfl rfl fun hg => .move rfl (.of rfl)) rfl rfl ?_
            refine TrL.stepS 341 (.guarded rfl rfl rfl fun hg => .neq rfl (.cond rfl hg) (.cond rfl hg)) rfl rfl ?_
            refine TrL.stepS 342 (.plain rfl (.or rfl (.of rfl) (.cond rfl fun h => h))) rfl rfl ?_
            refine TrL.stepS 343 (.plain rfl (.move rfl (.of rfl))) rfl rfl ?_
            refine TrL.stepS 344 (.guarded rfl rfl rfl fun hg => .move rfl (.of rfl)) rfl rfl ?_
            refine TrL.stepS 345 (.guarded rfl rfl rfl fun hg => .loadR 23 rfl (.of rfl) rfl rfl rfl T.sc79) rfl rfl ?_
            refine TrL.stepS 346 (.guarded rfl rfl rfl fun hg => .lenV 25 rfl (.cond rfl hg) rfl Own.view rfl Try.underlying79) rfl rfl ?_
            refine TrL.stepS 347 (.guarded rfl rfl rfl fun hg => .neq rfl (.cond rfl hg) (.cond rfl hg)) rfl rfl ?_
            refine TrL.stepS 348 (.plain rfl (.or rfl (.of rfl) (.cond rfl fun h => h))) rfl rfl ?_
            refine TrL.nil ?_
            refine Fin.keepG (Γ' := [(4, _), (5, _), (6, _), (7, _), (8, _), (9, _), (12, _), (36, _), (37, _), (38, _), (348, _)]) (.same rfl (.same rfl (.same rfl (.same rfl (.same rfl (.same rfl (.same rfl (.same rfl (.same rfl (.same rfl (.same rfl .nil))))))))))) ?_
            refine Fin.next ?_
            refine Tr.cond rfl (fun hb20 => ?_) (fun hb20 => ?_)
            · try simp only [decide_eq_true_eq, decide_eq_false_iff_not, beq_iff_eq, beq_eq_false_iff_ne, bne_iff_ne, bne_eq_false_iff_eq, Bool.and_eq_true, Bool.and_eq_false_iff, Bool.or_eq_true, Bool.or_eq_false_iff, Bool.not_eq_true', Bool.not_eq_false', gt_iff_lt, ge_iff_le, Int.not_lt, Int.not_le, ne_eq, Int.natCast_nonneg, true_and, and_true, Decidable.not_not, not_true_eq_false, not_false_eq_true] at hb20
              exfalso; simp [esOf_len] at hb20
            · have hr20 := hb20; try simp only [decide_eq_true_eq, decide_eq_false_iff_not, beq_iff_eq, beq_eq_false_iff_ne, bne_iff_ne, bne_eq_false_iff_eq, Bool.and_eq_true, Bool.and_eq_false_iff, Bool.or_eq_true, Bool.or_eq_false_iff, Bool.not_eq_true', Bool.not_eq_false', gt_iff_lt, ge_iff_le, Int.not_lt, Int.not_le, ne_eq, Int.natCast_nonneg, true_and, and_true, Decidable.not_not, not_true_eq_false, not_false_eq_true] at hb20
              refine Tr.skip ?_
              refine Fin.next ?_
              refine Tr.seq ?_
              refine Tr.region ?_
              refine TrL.stepS 350 (.plain rfl (.move rfl (.of rfl))) rfl rfl ?_
              refine TrL.stepS 351 (.plain rfl (.len rfl (.of rfl) Try.underlying78)) rfl rfl ?_
              refine TrL.stepS 352 (.plain rfl (.move rfl (.of rfl))) rfl rfl ?_
              refine TrL.nil ?_
              refine Fin.keepG (Γ' := [(4, _), (5, _), (6, _), (7, _), (8, _), (9, _), (36, _), (37, _), (38, _), (350, _), (351, _), (352, _)]) (.same rfl (.same rfl (.same rfl (.same rfl (.same rfl (.same rfl (.same rfl (.same rfl (.same rfl (.same rfl (.same rfl (.same rfl .nil)))))))))))) ?_
              refine Fin.next ?_
              refine Tr.block ?_
              refine Tr.loopK (γ := Nat) (Γk := [(4, _), (5, _), (6, _), (7, _), (8, _), (9, _), (36, _), (37, _), (38, _), (350, _), (351, _)]) (Mk := [(28, _), (30, _), (31, _), (20, _), (21, _), (22, _), (23, _), (24, _), (25, _), (26, _), (27, _)]) (.same rfl (.same rfl (.same rfl (.same rfl (.same rfl (.same rfl (.same rfl (.same rfl (.same rfl (.same rfl (.same rfl .nil))))))))))) (.same rfl (.same rfl (.same rfl (.same rfl (.same rfl (.same rfl (.same rfl (.same rfl (.same rfl (.same rfl (.same rfl .nil))))))))))) (fun n => n ≤ ([] ++ told ++ [((3 : Int), (90 : Int)), (-1, 1)]).length) (fun n => fun r => r) (fun n => fun r => (352, is (.int .i64 n)) :: r) (fun n => ([] ++ told ++ [((3 : Int), (90 : Int)), (-1, 1)]).length - n) (0) ?h0_3 ?hM_3 ?hG_3 ?hl_3
              case h0_3 => exact Nat.zero_le _
              case hM_3 => exact (.same rfl (.same rfl (.same rfl (.same rfl (.same rfl (.same rfl (.same rfl (.same rfl (.same rfl (.same rfl (.same rfl .nil)))))))))))
              case hG_3 => exact (.eq rfl (by first | rfl | (congr 1; first | done | omega | (push_cast; omega) | (push_cast; rfl))) (.same rfl (.same rfl (.same rfl (.same rfl (.same rfl (.same rfl (.same rfl (.same rfl (.same rfl (.same rfl (.same rfl .nil))))))))))))
              case hl_3 =>
                intro n hn3
                refine Tr.seq ?_
                refine Tr.region ?_
                refine TrL.stepS 353 (.plain rfl (.lss rfl (.of rfl) (.of rfl))) rfl rfl ?_
                refine TrL.nil ?_
                refine Fin.next ?_
                refine Tr.seq ?_
                refine Tr.cond rfl (fun hb21 => ?_) (fun hb21 => ?_)
                · try simp only [decide_eq_true_eq, decide_eq_false_iff_not, beq_iff_eq, beq_eq_false_iff_ne, bne_iff_ne, bne_eq_false_iff_eq, Bool.and_eq_true, Bool.and_eq_false_iff, Bool.or_eq_true, Bool.or_eq_false_iff, Bool.not_eq_true', Bool.not_eq_false', gt_iff_lt, ge_iff_le, Int.not_lt, Int.not_le, ne_eq, Int.natCast_nonneg, true_and, and_true, Decidable.not_not, not_true_eq_false, not_false_eq_true] at hb21
                  obtain ⟨y2, hx3⟩ := ex_get (xs := allT told) (i := n) (by omega)
                  refine Tr.skip ?_
                  refine Fin.next ?_
                  refine Tr.seq ?_
                  refine Tr.block ?_
                  refine Tr.seq ?_
                  refine Tr.region ?_
                  refine TrL.stepS 354 (.plain rfl (.indexE rfl (.of rfl) (.of rfl) Try.underlying78 T.sz75 (by omega) hx3)) rfl rfl ?_
                  refine TrL.stepS 355 (.plain rfl (.load2 rfl (.of rfl) T.ag75)) rfl rfl ?_
                  refine TrL.allocS 37 (zs := [.int .i64 0, .int .i64 0]) rfl rfl (by kernel_rfl) 33 rfl rfl rfl fun b37 => ?_
                  refine TrL.storeW 37 (vs := [_, _]) rfl rfl rfl (.of rfl) (.of rfl) rfl rfl T.sz75 rfl rfl ?_
                  refine TrL.nil ?_
                  refine Fin.keepG (Γ' := [(4, _), (5, _), (6, _), (7, _), (8, _), (9, _), (33, _), (36, _), (37, _), (38, _), (350, _), (351, _), (352, _)]) (.same rfl (.same rfl (.same rfl (.same rfl (.same rfl (.same rfl (.same rfl (.same rfl (.same rfl (.same rfl (.same rfl (.same rfl (.same rfl .nil))))))))))))) ?_
                  refine Fin.next ?_
                  refine Tr.seq ?_
                  refine Tr.regionK T.mixed (by kernel_rfl) (by kernel_rfl) ?_
                  refine ChainK.consS 356 (.plain rfl (.move rfl (.of rfl))) rfl ?_
                  refine ChainK.consS 357 (.plain rfl (.loadBN 37 (k := 2) (ds := [_, _]) rfl (.of rfl) rfl rfl rfl T.ag75 rfl)) rfl ?_
                  refine ChainK.consS 358 (.plain rfl (.callR [20, 21, 22] rfl (F48 g0.1 v' g0.2 m' (esOf ts2) hF2 hoe2 hel2 y2.1 y2.2) (.cons (.of rfl) (.cons (.of rfl) .nil)) (.same rfl (.same rfl (.same rfl .nil))) rfl)) rfl ?_
                  refine ChainK.consS 359 (.plain rfl (.move rfl (.of rfl))) rfl ?_
                  refine ChainK.consS 360 (.plain rfl (.loadBN 37 (k := 2) (ds := [_, _]) rfl (.of rfl) rfl rfl rfl T.ag75 rfl)) rfl ?_
                  refine ChainK.consS 361 (.plain rfl (.callRg (first := []) (caps := [_, _]) [23, 25, 24, 26] rfl (.of rfl) (F51 b23 b24 vt' vn' ts2 (by omega) y2.1 y2.2) (.cons (.of rfl) .nil) (.same rfl (.cons rfl L.Own.view (.same rfl (.cons rfl L.Own.view .nil)))) rfl)) rfl ?_
                  refine ChainK.consS 362 (.plain rfl (.neqB rfl (.of rfl) (.of rfl) Try.underlying4)) rfl ?_
                  refine ChainK.nil ?_
                  refine Fin.keepG (Γ' := [(4, _), (5, _), (6, _), (7, _), (8, _), (9, _), (36, _), (37, _), (38, _), (350, _), (351, _), (352, _), (362, _)]) (.same rfl (.same rfl (.same rfl (.same rfl (.same rfl (.same rfl (.same rfl (.same rfl (.same rfl (.same rfl (.same rfl (.same rfl (.same rfl .nil))))))))))))) ?_
                  refine Fin.next ?_
                  refine Tr.cond rfl (fun hb22 => ?_) (fun hb22 => ?_)
                  · try simp only [decide_eq_true_eq, decide_eq_false_iff_not, beq_iff_eq, beq_eq_false_iff_ne, bne_iff_ne, bne_eq_false_iff_eq, Bool.and_eq_true, Bool.and_eq_false_iff, Bool.or_eq_true, Bool.or_eq_false_iff, Bool.not_eq_true', Bool.not_eq_false', gt_iff_lt, ge_iff_le, Int.not_lt, Int.not_le, ne_eq, Int.natCast_nonneg, true_and, and_true, Decidable.not_not, not_true_eq_false, not_false_eq_true] at hb22
                    exfalso; rw [hasE_T] at hb22; simp at hb22
                  · have hr22 := hb22; try simp only [decide_eq_true_eq, decide_eq_false_iff_not, beq_iff_eq, beq_eq_false_iff_ne, bne_iff_ne, bne_eq_false_iff_eq, Bool.and_eq_true, Bool.and_eq_false_iff, Bool.or_eq_true, Bool.or_eq_false_iff, Bool.not_eq_true', Bool.not_eq_false', gt_iff_lt, ge_iff_le, Int.not_lt, Int.not_le, ne_eq, Int.natCast_nonneg, true_and, and_true, Decidable.not_not, not_true_eq_false, not_false_eq_true] at hb22
                    refine Tr.skip ?_
                    refine Fin.blockNormal ?_
                    refine Fin.next ?_
                    refine Tr.region ?_
                    first | refine TrL.stepS 364 (.plain rfl (.addI L.bd_i64 rfl (.of rfl) (.of rfl) (by omega) (by omega))) rfl rfl ?_ | refine TrL.stepS 364 (.plain rfl (.add rfl (.of rfl) (.of rfl))) rfl rfl ?_
                    refine TrL.stepS 352 (.plain rfl (.move rfl (.of rfl))) rfl rfl ?_
                    refine TrL.nil ?_
                    refine Fin.keepG (Γ' := [(4, _), (5, _), (6, _), (7, _), (8, _), (9, _), (36, _), (37, _), (38, _), (350, _), (351, _), (352, _)]) (.same rfl (.same rfl (.same rfl (.same rfl (.same rfl (.same rfl (.same rfl (.same rfl (.same rfl (.same rfl (.same rfl (.same rfl .nil)))))))))))) ?_
                    exact Fin.again (n + 1) (by omega) (by omega) (.same rfl (.same rfl (.same rfl (.same rfl (.same rfl (.same rfl (.same rfl (.same rfl (.same rfl (.same rfl (.same rfl .nil))))))))))) (.eq rfl (by first | rfl | (congr 1; first | done | omega | (push_cast; omega) | (push_cast; rfl))) (.same rfl (.same rfl (.same rfl (.same rfl (.same rfl (.same rfl (.same rfl (.same rfl (.same rfl (.same rfl (.same rfl .nil))))))))))))
                · try simp only [decide_eq_true_eq, decide_eq_false_iff_not, beq_iff_eq, beq_eq_false_iff_ne, bne_iff_ne, bne_eq_false_iff_eq, Bool.and_eq_true, Bool.and_eq_false_iff, Bool.or_eq_true, Bool.or_eq_false_iff, Bool.not_eq_true', Bool.not_eq_false', gt_iff_lt, ge_iff_le, Int.not_lt, Int.not_le, ne_eq, Int.natCast_nonneg, true_and, and_true, Decidable.not_not, not_true_eq_false, not_false_eq_true] at hb21
                  refine Tr.exit ?_
                  refine Fin.thenExit ?_
                  refine Fin.thenExit ?_
                  refine Fin.blockOut ?_
                  refine Fin.blockNormal ?_
                  refine Fin.next ?_
                  refine Tr.region ?_
                  first | refine TrL.stepS 365 (.plain rfl (.addI L.bd_i64 rfl (.of rfl) (.of rfl) (by omega) (by omega))) rfl rfl ?_ | refine TrL.stepS 365 (.plain rfl (.add rfl (.of rfl) (.of rfl))) rfl rfl ?_
                  refine TrL.stepS 38 (.plain rfl (.move rfl (.of rfl))) rfl rfl ?_
                  refine TrL.nil ?_
                  refine Fin.keepG (Γ' := [(4, _), (5, _), (6, _), (7, _), (8, _), (9, _), (36, _), (37, _), (38, _)]) (.same rfl (.same rfl (.same rfl (.same rfl (.same rfl (.same rfl (.same rfl (.same rfl (.same rfl .nil))))))))) ?_
                  exact Fin.again ((k + 1, ts2, told2, fd2, m', v', vt', vn', w')) (⟨by dsimp only; omega, hrn2, hinv2, hF2⟩) (by dsimp only; omega) (.same rfl (.same rfl (.same rfl (.same rfl (.same rfl (.same rfl (.same rfl (.same rfl .nil)))))))) (.eq rfl (by first | rfl | (congr 1; first | done | omega | (push_cast; omega) | (push_cast; rfl))) (.eq rfl (by first | rfl | (congr 1; first | done | omega | (push_cast; omega) | (push_cast; rfl))) (.eq rfl (by first | rfl | (congr 1; first | done | omega | (push_cast; omega) | (push_cast; rfl))) (.same rfl (.same rfl (.same rfl (.same rfl (.same rfl (.same rfl .nil)))))))))
    · try simp only [decide_eq_true_eq, decide_eq_false_iff_not, beq_iff_eq, beq_eq_false_iff_ne, bne_iff_ne, bne_eq_false_iff_eq, Bool.and_eq_true, Bool.and_eq_false_iff, Bool.or_eq_true, Bool.or_eq_false_iff, Bool.not_eq_true', Bool.not_eq_false', gt_iff_lt, ge_iff_le, Int.not_lt, Int.not_le, ne_eq, Int.natCast_nonneg, true_and, and_true, Decidable.not_not, not_true_eq_false, not_false_eq_true] at hb0
      have hfin : runG hz = (ts, told, fd) := by rw [← hI.2.1, List.take_of_length_le (by omega)]
      refine Tr.exit ?_
      refine Fin.thenExit ?_
      refine Fin.thenExit ?_
      refine Fin.blockOut ?_
      refine Fin.next ?_
      refine Tr.seq ?_
      refine Tr.region ?_
      refine TrL.stepS 366 (.plain rfl (.move rfl (.of rfl))) rfl rfl ?_
      refine TrL.stepS 2 (.plain rfl (.assign rfl (.of rfl))) rfl rfl ?_
      refine TrL.stepS 3 (.plain rfl (.assign rfl (.of rfl))) rfl rfl ?_
      refine TrL.nil ?_
      refine Fin.keepG (Γ' := [(2, _), (3, _)]) (.same rfl (.same rfl .nil)) ?_
      refine Fin.next ?_
      refine Tr.ret ?_
      refine Fin.retI (rs := [_, _]) (Rs' := [is (.int .i64 (runG hz).2.2), is (.bool true)]) rfl (.cons (.tmp rfl) (.cons (.tmp rfl) .nil)) (.cons (L.iv ?_) (.cons (L.iv rfl) .nil))
      · rw [hfin]

end Go.Proofs.Ytemkogoclljhpaa