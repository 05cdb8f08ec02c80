import Derived.Test.YtemkogoclljhpaaY3
namespace Go.Proofs.Ytemkogoclljhpaa
open Go Go.Proofs.Ytemkogoclljhpaa.L
set_option linter.unusedVariables false
set_option linter.unusedSimpArgs false

namespace T
theorem Y4bd75_0_1 (c0 : Int) (c1 : Int) : Try.prog.built 75 [(0, .int .i64 c0), (1, .int .i64 c1)] = some #[.int .i64 c0, .int .i64 c1] := by kernel_rfl
theorem Y4bd81  : Try.prog.built 81 [] = some #[.bool false, .slice none 0 0, .slice none 0 0, .slice none 0 0] := by kernel_rfl
end T


theorem okEs.get {es : List En} (h : okEs es) {i : Nat} {e : En} (he : es[i]? = some e) : okN e.1 ∧ 0 ≤ e.2.1 ∧ e.2.1 ≤ 1000 := h e (List.mem_of_getElem? he)
theorem hasE_live {es : List En} {i : Nat} {e : En} (he : es[i]? = some e) : hasE es i e.2.1 = e.2.2 := by
  rw [hasE_at (Int.natCast_nonneg _) (by rwa [Int.toNat_natCast])]; simp
theorem live_len {m : List (Int × Unit)} {es : List En} (h : FreeM m es) : (es.length : Int) - m.length = (usedL es).length := by
  have h1 : (m.map (·.1)).Perm (((List.range es.length).filter fun i => match es[i]? with | some e => !e.2.2 | none => false).map fun i : Nat => (i : Int)) := by
    refine (List.perm_ext_iff_of_nodup h.1 (List.Pairwise.map (fun i : Nat => (i : Int)) (fun a b (hn : a ≠ b) (e : (a : Int) = b) => hn (by omega)) (List.Pairwise.filter _ List.nodup_range))).2 fun a => ?_
    have hm : a ∈ m.map (·.1) ↔ (mapGet m a).isSome = true := by
      cases hg : mapGet m a with
      | none => simp only [Option.isSome_none, Bool.false_eq_true, iff_false]; intro hc; obtain ⟨p, hp, rfl⟩ := List.mem_map.1 hc; exact mapGet_none.1 hg p hp rfl
      | some u =>
        simp only [Option.isSome_some, iff_true]
        apply Classical.byContradiction
        intro hc
        have : mapGet m a = none := mapGet_none.2 fun p hp e => hc (List.mem_map.2 ⟨p, hp, e⟩)
        rw [hg] at this; cases this
    rw [hm, h.2 a]
    constructor
    · rintro ⟨i, e, rfl, he, hl⟩
      exact List.mem_map.2 ⟨i, List.mem_filter.2 ⟨List.mem_range.2 (getL_len he), by rw [he]; simp [hl]⟩, rfl⟩
    · intro ha
      obtain ⟨i, hi, rfl⟩ := List.mem_map.1 ha
      obtain ⟨hi1, hi2⟩ := List.mem_filter.1 hi
      obtain ⟨e, he⟩ := ex_get (List.mem_range.1 hi1)
      rw [he] at hi2
      exact ⟨i, e, rfl, he, by simpa using hi2⟩
  have h2 := h1.length_eq
  rw [List.length_map, List.length_map] at h2
  have h3 : ∀ k, k ≤ es.length → ((List.range k).filter fun i => match es[i]? with | some e => !e.2.2 | none => false).length + (usedL (es.take k)).length = k := by
    intro k
    induction k with
    | zero => intro _; rfl
    | succ k ih =>
      intro hk
      obtain ⟨e, he⟩ := ex_get (xs := es) (i := k) (by omega)
      have := ih (by omega)
      rw [List.range_succ, List.filter_append, take_snoc he, usedL_snoc, List.length_append, List.length_append]
      by_cases hl : e.2.2 = true
      · simp [he, hl]; omega
      · simp [he, hl]; omega
  have h4 := h3 es.length (Nat.le_refl _)
  rw [List.take_length] at h4
  omega

/- (*tidepool/arena.Arena).at -/
set_option maxRecDepth 100000 in
theorem F121 (b : Nat) (v : Value) (mr : Nat) (m : List (Int × Unit)) (es : List En) (hF : FreeM m es) (hok : okEs es) (hl : es.length ≤ 1000) (x y : Int) : FnG Try.prog 121 [is (.pointer (some ⟨b, 0, none⟩)), is (.agg #[.int .i64 x, .int .i64 y])] [BlkR b [is v, is (.map (some mr))] 183, Own placeR 185 v es, MapR (intK .i64) unitR mr m] [] (γ := Unit) (fun _ => Tup [is (if hasE es x y = true then elemP v (x.toNat * placeR.n + 0) else .pointer none), is (.int .i64 (errE es x y))]) (fun _ => []) := by
  refine FnG.mk' Try.func121 T.nm121 rfl (N := 21) rfl rfl (t := 5) rfl fun B => ?_
  refine Tr.seq ?_
  refine Tr.region ?_
  refine TrL.stepS 3 (.plain rfl (.boxR rfl (.of rfl))) rfl rfl ?_
  refine TrL.stepS 4 (.plain rfl (.assign rfl (.of rfl))) rfl rfl ?_
  refine TrL.stepS 5 (.plain rfl (.assign rfl (.of rfl))) rfl rfl ?_
  refine TrL.nil ?_
  refine Fin.keepG (Γ' := [(0, _), (3, _)]) (.same rfl (.same rfl .nil)) ?_
  refine Fin.next ?_
  refine Tr.seq ?_
  refine Tr.block ?_
  refine Tr.seq ?_
  refine Tr.region ?_
  refine TrL.stepS 7 (.plain rfl (.move rfl (.of rfl))) rfl rfl ?_
  refine TrL.stepS 8 (.plain rfl (.eqlPN rfl (.of rfl) (.of rfl) Try.underlying72)) rfl rfl ?_
  refine TrL.stepS 6 (.plain rfl (.assign rfl (.of rfl))) rfl rfl ?_
  refine TrL.nil ?_
  refine Fin.keepG (Γ' := [(0, _), (3, _), (6, _)]) (.same rfl (.same rfl (.same rfl .nil))) ?_
  refine Fin.next ?_
  refine Tr.cond rfl (fun hb0 => ?_) (fun hb0 => ?_)
  · try simp only [decide_eq_true_eq, decide_eq_false_iff_not, beq_iff_eq, beq_eq_false_iff_ne, bne_iff_ne, bne_eq_false_iff_eq, Bool.and_eq_true, Bool.and_eq_false_iff, Bool.or_eq_true, Bool.or_eq_false_iff, Bool.not_eq_true', Bool.not_eq_false', gt_iff_lt, ge_iff_le, Int.not_lt, Int.not_le, ne_eq, Int.natCast_nonneg, true_and, and_true, Decidable.not_not, not_true_eq_false, not_false_eq_true] at hb0
    cases hb0
  · try simp only [decide_eq_true_eq, decide_eq_false_iff_not, beq_iff_eq, beq_eq_false_iff_ne, bne_iff_ne, bne_eq_false_iff_eq, Bool.and_eq_true, Bool.and_eq_false_iff, Bool.or_eq_true, Bool.or_eq_false_iff, Bool.not_eq_true', Bool.not_eq_false', gt_iff_lt, ge_iff_le, Int.not_lt, Int.not_le, ne_eq, Int.natCast_nonneg, true_and, and_true, Decidable.not_not, not_true_eq_false, not_false_eq_true] at hb0
    refine Tr.seq ?_
    refine Tr.region ?_
    refine TrL.stepS 10 (.plain rfl (.move rfl (.of rfl))) rfl rfl ?_
    refine TrL.stepS 11 (.plain rfl (.load2 rfl (.of rfl) T.ag75)) rfl rfl ?_
    refine TrL.stepS 12 (.plain rfl (.callR [2, 3, 4] rfl (F48 b v mr m es hF hok hl x y) (.cons (.of rfl) (.cons (.of rfl) .nil)) (.same rfl (.same rfl (.same rfl .nil))) rfl)) rfl rfl ?_
    refine TrL.stepS 13 (.plain rfl (.not rfl (.of rfl))) rfl rfl ?_
    refine TrL.stepS 9 (.plain rfl (.assign rfl (.of rfl))) rfl rfl ?_
    refine TrL.nil ?_
    refine Fin.keepG (Γ' := [(0, _), (3, _), (9, _)]) (.same rfl (.same rfl (.same rfl .nil))) ?_
    refine Fin.next ?_
    refine Tr.cond rfl (fun hb1 => ?_) (fun hb1 => ?_)
    · have hr1 := hb1; try simp only [decide_eq_true_eq, decide_eq_false_iff_not, beq_iff_eq, beq_eq_false_iff_ne, bne_iff_ne, bne_eq_false_iff_eq, Bool.and_eq_true, Bool.and_eq_false_iff, Bool.or_eq_true, Bool.or_eq_false_iff, Bool.not_eq_true', Bool.not_eq_false', gt_iff_lt, ge_iff_le, Int.not_lt, Int.not_le, ne_eq, Int.natCast_nonneg, true_and, and_true, Decidable.not_not, not_true_eq_false, not_false_eq_true] at hb1
      have hh : hasE es x y = false := by simpa using hb1
      refine Tr.seq ?_
      refine Tr.region ?_
      refine TrL.stepS 4 (.plain rfl (.assign rfl (.of rfl))) rfl rfl ?_
      refine TrL.stepS 5 (.plain rfl (.assign rfl (.of rfl))) rfl rfl ?_
      refine TrL.nil ?_
      refine Fin.keepG (Γ' := [(4, _), (5, _)]) (.same rfl (.same rfl .nil)) ?_
      refine Fin.next ?_
      refine Tr.ret ?_
      refine Fin.blockRet ?_
      refine Fin.thenRet ?_
      refine Fin.retGI 5 rfl (()) [] (rs := [_, _]) rfl (.cons (.tmp rfl) (.cons (.tmp rfl) .nil)) (.cons (L.iv ?_) (.cons (L.iv ?_) .nil)) rfl (.nil) rfl
      · rw [if_neg (by rw [hh]; simp)]
      · unfold errE; rw [if_neg (by rw [hh]; simp)]
    · have hr1 := hb1; try simp only [decide_eq_true_eq, decide_eq_false_iff_not, beq_iff_eq, beq_eq_false_iff_ne, bne_iff_ne, bne_eq_false_iff_eq, Bool.and_eq_true, Bool.and_eq_false_iff, Bool.or_eq_true, Bool.or_eq_false_iff, Bool.not_eq_true', Bool.not_eq_false', gt_iff_lt, ge_iff_le, Int.not_lt, Int.not_le, ne_eq, Int.natCast_nonneg, true_and, and_true, Decidable.not_not, not_true_eq_false, not_false_eq_true] at hb1
      have hh : hasE es x y = true := by simpa using hb1
      obtain ⟨hx0, e, he, hlive, hgen⟩ := hasE_get hh
      refine Tr.skip ?_
      refine Fin.blockNormal ?_
      refine Fin.next ?_
      refine Tr.seq ?_
      refine Tr.regionK T.mixed (by kernel_rfl) (by kernel_rfl) ?_
      refine ChainK.consS 14 (.plain rfl (.move rfl (.of rfl))) rfl ?_
      refine ChainK.consS 15 (.plain rfl (.nilCheckP rfl (.of rfl))) rfl ?_
      refine ChainK.consS 16 (.plain rfl (.fieldP rfl (.of rfl) T.fl183_0)) rfl ?_
      refine ChainK.consS 17 (.plain rfl (.loadR 2 rfl (.of rfl) rfl rfl rfl T.sc181)) rfl ?_
      refine ChainK.consS 18 (.plain rfl (.fieldC rfl (.of rfl) T.fl75_0)) rfl ?_
      refine ChainK.consS 19 (.plain rfl (.load1 rfl (.of rfl) T.sc3)) rfl ?_
      refine ChainK.consS 20 (.plain rfl (.indexN 3 (x.toNat) rfl (.of rfl) (.of rfl) rfl Own.view rfl Try.underlying181 T.sz185 (by omega) (he))) rfl ?_
      refine ChainK.consS 4 (.plain rfl (.assign rfl (.of rfl))) rfl ?_
      refine ChainK.consS 5 (.plain rfl (.assign rfl (.of rfl))) rfl ?_
      refine ChainK.nil ?_
      refine Fin.keepG (Γ' := [(4, _), (5, _)]) (.same rfl (.same rfl .nil)) ?_
      refine Fin.next ?_
      refine Tr.ret ?_
      refine Fin.retGI 5 rfl (()) [] (rs := [_, _]) rfl (.cons (.tmp rfl) (.cons (.tmp rfl) .nil)) (.cons (L.iv ?_) (.cons (L.iv ?_) .nil)) rfl (.nil) rfl
      · rw [if_pos hh]
      · unfold errE; rw [if_pos hh]

/- (*tidepool/arena.Arena).Get -/
set_option maxRecDepth 100000 in
theorem F46 (b : Nat) (v : Value) (mr : Nat) (m : List (Int × Unit)) (es : List En) (hF : FreeM m es) (hok : okEs es) (hl : es.length ≤ 1000) (x y : Int) : FnG Try.prog 46 [is (.pointer (some ⟨b, 0, none⟩)), is (.agg #[.int .i64 x, .int .i64 y])] [BlkR b [is v, is (.map (some mr))] 183, Own placeR 185 v es, MapR (intK .i64) unitR mr m] [] (γ := Unit) (fun _ => Tup [AggR [is (.bool (getE es x y).1), Lst strR (getE es x y).2.1, Lst handR (getE es x y).2.2.1, Lst (intR .i64) (getE es x y).2.2.2], is (.int .i64 (errE es x y))]) (fun _ => []) := by
  refine FnG.mk' Try.func46 T.nm46 rfl (N := 23) rfl rfl (t := 5) rfl fun B => ?_
  refine Tr.seq ?_
  refine Tr.region ?_
  refine TrL.stepS 3 (.plain rfl (.boxR rfl (.of rfl))) rfl rfl ?_
  refine TrL.allocR 20 (zs := [.bool false, .slice none 0 0, .slice none 0 0, .slice none 0 0]) rfl rfl (by kernel_rfl) 4 rfl rfl rfl fun b20 => ?_
  refine TrL.stepS 5 (.plain rfl (.assign rfl (.of rfl))) rfl rfl ?_
  refine TrL.nil ?_
  refine Fin.keepG (Γ' := [(0, _), (3, _), (4, _)]) (.same rfl (.same rfl (.same rfl .nil))) ?_
  refine Fin.next ?_
  refine Tr.seq ?_
  refine Tr.region ?_
  refine TrL.stepS 9 (.plain rfl (.move rfl (.of rfl))) rfl rfl ?_
  refine TrL.stepS 10 (.plain rfl (.load2 rfl (.of rfl) T.ag75)) rfl rfl ?_
  refine TrL.stepS 11 (.plain rfl (.callR [2, 3, 4] rfl (F121 b v mr m es hF hok hl x y) (.cons (.of rfl) (.cons (.of rfl) .nil)) (.same rfl (.same rfl (.same rfl .nil))) rfl)) rfl rfl ?_
  refine TrL.stepS 8 (.plain rfl (.move rfl (.of rfl))) rfl rfl ?_
  refine TrL.stepS 12 (.plain rfl (.extract rfl (.of rfl) rfl)) rfl rfl ?_
  refine TrL.stepS 13 (.plain rfl (.extract rfl (.of rfl) rfl)) rfl rfl ?_
  refine TrL.stepS 6 (.plain rfl (.assign rfl (.of rfl))) rfl rfl ?_
  refine TrL.stepS 7 (.plain rfl (.assign rfl (.of rfl))) rfl rfl ?_
  refine TrL.nil ?_
  refine Fin.keepG (Γ' := [(4, _), (6, _), (7, _)]) (.same rfl (.same rfl (.same rfl .nil))) ?_
  refine Fin.next ?_
  refine Tr.seq ?_
  refine Tr.seq ?_
  refine Tr.region ?_
  refine TrL.stepS 14 (.plain rfl (.move rfl (.of rfl))) rfl rfl ?_
  refine TrL.stepS 15 (.plain rfl (.neq rfl (.of rfl) (.of rfl))) rfl rfl ?_
  refine TrL.nil ?_
  refine Fin.keepG (Γ' := [(4, _), (6, _), (7, _), (15, _)]) (.same rfl (.same rfl (.same rfl (.same rfl .nil)))) ?_
  refine Fin.next ?_
  refine Tr.cond rfl (fun hb0 => ?_) (fun hb0 => ?_)
  · try simp only [decide_eq_true_eq, decide_eq_false_iff_not, beq_iff_eq, beq_eq_false_iff_ne, bne_iff_ne, bne_eq_false_iff_eq, Bool.and_eq_true, Bool.and_eq_false_iff, Bool.or_eq_true, Bool.or_eq_false_iff, Bool.not_eq_true', Bool.not_eq_false', gt_iff_lt, ge_iff_le, Int.not_lt, Int.not_le, ne_eq, Int.natCast_nonneg, true_and, and_true, Decidable.not_not, not_true_eq_false, not_false_eq_true] at hb0
    have hh : ¬ hasE es x y = true := fun h => by unfold errE at hb0; rw [if_pos h] at hb0; omega
    refine Tr.seq ?_
    refine Tr.region ?_
    refine TrL.stepS 16 (.plain rfl (.buildF (Ss := [is (.bool false), Lst strR [], Lst handR [], Lst (intR .i64) []]) rfl .nil (fun w vs h => by rcases h with _ | _; exact ⟨_, T.Y4bd81 .., .cons (rfl) (.cons (L.lst_nil' rfl) (.cons (L.lst_nil' rfl) (.cons (L.lst_nil' rfl) (.nil))))⟩))) rfl rfl ?_
    refine TrL.stepS 17 (.plain rfl (.move rfl (.of rfl))) rfl rfl ?_
    refine TrL.storeRW 20 rfl rfl rfl (.of rfl) (.of rfl) rfl rfl ((L.all1_cons (L.h1is rfl rfl) (L.all1_cons (L.h1lst) (L.all1_cons (L.h1lst) (L.all1_cons (L.h1lst) L.all1_nil))))) T.sz81 rfl ?_
    refine TrL.stepS 5 (.plain rfl (.assign rfl (.of rfl))) rfl rfl ?_
    refine TrL.nil ?_
    refine Fin.keepG (Γ' := [(4, _), (5, _)]) (.same rfl (.same rfl .nil)) ?_
    refine Fin.next ?_
    refine Tr.ret ?_
    refine Fin.thenRet ?_
    exact Fin.retGI 5 rfl (()) [] (rs := [_, _]) rfl (.cons (.cellR 20 (k := 4) rfl rfl rfl rfl T.ag81 rfl) (.cons (.tmp rfl) .nil)) (.cons ((fun v w h => by unfold getE; rw [if_neg hh]; exact h)) (.cons (L.iv rfl) .nil)) rfl (.nil) rfl
  · try simp only [decide_eq_true_eq, decide_eq_false_iff_not, beq_iff_eq, beq_eq_false_iff_ne, bne_iff_ne, bne_eq_false_iff_eq, Bool.and_eq_true, Bool.and_eq_false_iff, Bool.or_eq_true, Bool.or_eq_false_iff, Bool.not_eq_true', Bool.not_eq_false', gt_iff_lt, ge_iff_le, Int.not_lt, Int.not_le, ne_eq, Int.natCast_nonneg, true_and, and_true, Decidable.not_not, not_true_eq_false, not_false_eq_true] at hb0
    have hh : hasE es x y = true := by
      apply Classical.byContradiction
      intro h
      unfold errE at hb0; rw [if_neg h] at hb0; omega
    obtain ⟨hx0, e, he, hlive, hgen⟩ := hasE_get hh
    simp only [if_pos hh]
    have hen := hok.get he
    refine Tr.skip ?_
    refine Fin.next ?_
    refine Tr.seq ?_
    refine Tr.region ?_
    refine TrL.stepS 18 (.plain rfl (.move rfl (.of rfl))) rfl rfl ?_
    refine TrL.stepS 19 (.plain rfl (.nilCheckW 3 rfl (.of rfl) rfl Own.view rfl (L.hz_pos (he)))) rfl rfl ?_
    refine TrL.stepS 20 (.plain rfl (.fieldW 3 rfl (.of rfl) rfl Own.view rfl (L.hz_pos (he)) T.fl185_0)) rfl rfl ?_
    refine TrL.stepS 21 (.plain rfl (.loadWN 3 (x.toNat) 0 4 rfl (.of rfl) rfl Own.view rfl (he) rfl rfl T.ag81)) rfl rfl ?_
    refine TrL.stepS 22 (.plain rfl (.call rfl (F119 e.1 hen.1) (.cons (.of rfl) .nil))) rfl rfl ?_
    refine TrL.storeRW 20 rfl rfl rfl (.of rfl) (.of rfl) rfl rfl ((L.all1_cons (L.h1is rfl rfl) (L.all1_cons (L.h1lst) (L.all1_cons (L.h1lst) (L.all1_cons (L.h1lst) L.all1_nil))))) T.sz81 rfl ?_
    refine TrL.stepS 5 (.plain rfl (.assign rfl (.of rfl))) rfl rfl ?_
    refine TrL.nil ?_
    refine Fin.keepG (Γ' := [(4, _), (5, _)]) (.same rfl (.same rfl .nil)) ?_
    refine Fin.next ?_
    refine Tr.ret ?_
    refine Fin.retGI 5 rfl (()) [] (rs := [_, _]) rfl (.cons (.cellR 20 (k := 4) rfl rfl rfl rfl T.ag81 rfl) (.cons (.tmp rfl) .nil)) (.cons ((fun v w h => by unfold getE; rw [if_pos hh, getD_of he]; exact h)) (.cons (L.iv ?_) .nil)) rfl (.nil) rfl
    · unfold errE; rw [if_pos hh]

/- (*tidepool/arena.Arena).Put -/
set_option maxRecDepth 100000 in
theorem F52 (b : Nat) (v : Value) (mr : Nat) (m : List (Int × Unit)) (es : List En) (hF : FreeM m es) (hok : okEs es) (hl : es.length ≤ 1000) (x y : Int) (z : Nd) (hz0 : okN z) : FnG Try.prog 52 [is (.pointer (some ⟨b, 0, none⟩)), is (.agg #[.int .i64 x, .int .i64 y]), AggR [is (.bool z.1), Lst strR z.2.1, Lst handR z.2.2.1, Lst (intR .i64) z.2.2.2]] [BlkR b [is v, is (.map (some mr))] 183, MapR (intK .i64) unitR mr m] [Own placeR 185 v es] (γ := Unit) (fun _ => is (.int .i64 (errE es x y))) (fun _ => [Own placeR 185 v (putE es x y z)]) := by
  refine FnG.mk' Try.func52 T.nm52 rfl (N := 23) rfl rfl (t := 4) rfl fun B => ?_
  refine Tr.seq ?_
  refine Tr.region ?_
  refine TrL.stepS 4 (.plain rfl (.boxR rfl (.of rfl))) rfl rfl ?_
  refine TrL.stepS 5 (.plain rfl (.boxA rfl (.of rfl))) rfl rfl ?_
  refine TrL.stepS 6 (.plain rfl (.assign rfl (.of rfl))) rfl rfl ?_
  refine TrL.nil ?_
  refine Fin.keepG (Γ' := [(0, _), (4, _), (5, _)]) (.same rfl (.same rfl (.same rfl .nil))) ?_
  refine Fin.next ?_
  refine Tr.seq ?_
  refine Tr.region ?_
  refine TrL.stepS 10 (.plain rfl (.move rfl (.of rfl))) rfl rfl ?_
  refine TrL.stepS 11 (.plain rfl (.load2 rfl (.of rfl) T.ag75)) rfl rfl ?_
  refine TrL.stepS 12 (.plain rfl (.callR [2, 4, 3] rfl (F121 b v mr m es hF hok hl x y) (.cons (.of rfl) (.cons (.of rfl) .nil)) (.same rfl (.same rfl (.same rfl .nil))) rfl)) rfl rfl ?_
  refine TrL.stepS 9 (.plain rfl (.move rfl (.of rfl))) rfl rfl ?_
  refine TrL.stepS 13 (.plain rfl (.extract rfl (.of rfl) rfl)) rfl rfl ?_
  refine TrL.stepS 14 (.plain rfl (.extract rfl (.of rfl) rfl)) rfl rfl ?_
  refine TrL.stepS 7 (.plain rfl (.assign rfl (.of rfl))) rfl rfl ?_
  refine TrL.stepS 8 (.plain rfl (.assign rfl (.of rfl))) rfl rfl ?_
  refine TrL.nil ?_
  refine Fin.keepG (Γ' := [(5, _), (7, _), (8, _)]) (.same rfl (.same rfl (.same rfl .nil))) ?_
  refine Fin.next ?_
  refine Tr.seq ?_
  refine Tr.seq ?_
  refine Tr.region ?_
  refine TrL.stepS 15 (.plain rfl (.move rfl (.of rfl))) rfl rfl ?_
  refine TrL.stepS 16 (.plain rfl (.eql rfl (.of rfl) (.of rfl))) rfl rfl ?_
  refine TrL.nil ?_
  refine Fin.keepG (Γ' := [(5, _), (7, _), (8, _), (16, _)]) (.same rfl (.same rfl (.same rfl (.same rfl .nil)))) ?_
  refine Fin.next ?_
  refine Tr.cond rfl (fun hb0 => ?_) (fun hb0 => ?_)
  · try simp only [decide_eq_true_eq, decide_eq_false_iff_not, beq_iff_eq, beq_eq_false_iff_ne, bne_iff_ne, bne_eq_false_iff_eq, Bool.and_eq_true, Bool.and_eq_false_iff, Bool.or_eq_true, Bool.or_eq_false_iff, Bool.not_eq_true', Bool.not_eq_false', gt_iff_lt, ge_iff_le, Int.not_lt, Int.not_le, ne_eq, Int.natCast_nonneg, true_and, and_true, Decidable.not_not, not_true_eq_false, not_false_eq_true] at hb0
    have hh : hasE es x y = true := by
      apply Classical.byContradiction
      intro h
      unfold errE at hb0; rw [if_neg h] at hb0; omega
    obtain ⟨hx0, e, he, hlive, hgen⟩ := hasE_get hh
    simp only [if_pos hh]
    have hen := hok.get he
    refine Tr.region ?_
    refine TrL.stepS 17 (.plain rfl (.move rfl (.of rfl))) rfl rfl ?_
    refine TrL.stepS 18 (.plain rfl (.loadA (n := 4) rfl (.of rfl) T.ag81 rfl rfl)) rfl rfl ?_
    refine TrL.stepS 19 (.plain rfl (.call rfl (F119 z hz0) (.cons (.of rfl) .nil))) rfl rfl ?_
    refine TrL.stepS 20 (.plain rfl (.nilCheckW 4 rfl (.of rfl) rfl Own.view rfl (L.hz_pos (he)))) rfl rfl ?_
    refine TrL.stepS 21 (.plain rfl (.fieldW 4 rfl (.of rfl) rfl Own.view rfl (L.hz_pos (he)) T.fl185_0)) rfl rfl ?_
    refine TrL.storeO 4 (x.toNat) 0 (z' := (z, e.2.1, e.2.2)) rfl rfl rfl (.of rfl) (.of rfl) (L.hRagg (L.all1_cons (L.h1is rfl rfl) (L.all1_cons L.h1lst (L.all1_cons L.h1lst (L.all1_cons L.h1lst L.all1_nil))))) rfl rfl (he) rfl rfl T.sz81 ?_
    refine TrL.nil ?_
    refine Fin.keepG (Γ' := [(8, _)]) (.same rfl .nil) ?_
    refine Fin.next ?_
    refine Tr.seq ?_
    refine Tr.region ?_
    refine TrL.stepS 22 (.plain rfl (.move rfl (.of rfl))) rfl rfl ?_
    refine TrL.stepS 6 (.plain rfl (.assign rfl (.of rfl))) rfl rfl ?_
    refine TrL.nil ?_
    refine Fin.keepG (Γ' := [(6, _)]) (.same rfl .nil) ?_
    refine Fin.next ?_
    refine Tr.ret ?_
    exact Fin.retGI 4 rfl (()) [4] (rs := [_]) rfl (.cons (.tmp rfl) .nil) (.cons (L.iv rfl) .nil) rfl (.cons rfl (fun F L w h => by unfold putE; rw [if_pos hh, getD_of he]; exact h) .nil) rfl
  · try simp only [decide_eq_true_eq, decide_eq_false_iff_not, beq_iff_eq, beq_eq_false_iff_ne, bne_iff_ne, bne_eq_false_iff_eq, Bool.and_eq_true, Bool.and_eq_false_iff, Bool.or_eq_true, Bool.or_eq_false_iff, Bool.not_eq_true', Bool.not_eq_false', gt_iff_lt, ge_iff_le, Int.not_lt, Int.not_le, ne_eq, Int.natCast_nonneg, true_and, and_true, Decidable.not_not, not_true_eq_false, not_false_eq_true] at hb0
    have hh : ¬ hasE es x y = true := fun h => by unfold errE at hb0; rw [if_pos h] at hb0; omega
    refine Tr.skip ?_
    refine Fin.next ?_
    refine Tr.seq ?_
    refine Tr.region ?_
    refine TrL.stepS 22 (.plain rfl (.move rfl (.of rfl))) rfl rfl ?_
    refine TrL.stepS 6 (.plain rfl (.assign rfl (.of rfl))) rfl rfl ?_
    refine TrL.nil ?_
    refine Fin.keepG (Γ' := [(6, _)]) (.same rfl .nil) ?_
    refine Fin.next ?_
    refine Tr.ret ?_
    exact Fin.retGI 4 rfl (()) [4] (rs := [_]) rfl (.cons (.tmp rfl) .nil) (.cons (L.iv rfl) .nil) rfl (.cons rfl (fun F L w h => by unfold putE; rw [if_neg hh]; exact h) .nil) rfl

/- (*tidepool/arena.Arena).Len -/
set_option maxRecDepth 100000 in
theorem F47 (b : Nat) (v : Value) (mr : Nat) (m : List (Int × Unit)) (es : List En) (hF : FreeM m es) (hok : okEs es) (hl : es.length ≤ 1000) : FnG Try.prog 47 [is (.pointer (some ⟨b, 0, none⟩))] [BlkR b [is v, is (.map (some mr))] 183, Own placeR 185 v es, MapR (intK .i64) unitR mr m] [] (γ := Unit) (fun _ => Tup [is (.int .i64 ((usedL es).length : Nat)), is (.int .i64 (es.length : Nat))]) (fun _ => []) := by
  have hlv := live_len hF
  refine FnG.mk' Try.func47 T.nm47 rfl (N := 22) rfl rfl (t := 5) rfl fun B => ?_
  refine Tr.seq ?_
  refine Tr.region ?_
  refine TrL.stepS 2 (.plain rfl (.assign rfl (.of rfl))) rfl rfl ?_
  refine TrL.stepS 3 (.plain rfl (.assign rfl (.of rfl))) rfl rfl ?_
  refine TrL.nil ?_
  refine Fin.keepG (Γ' := [(0, _)]) (.same rfl .nil) ?_
  refine Fin.next ?_
  refine Tr.seq ?_
  refine Tr.seq ?_
  refine Tr.region ?_
  refine TrL.stepS 4 (.plain rfl (.move rfl (.of rfl))) rfl rfl ?_
  refine TrL.stepS 5 (.plain rfl (.eqlPN rfl (.of rfl) (.of rfl) Try.underlying72)) rfl rfl ?_
  refine TrL.nil ?_
  refine Fin.keepG (Γ' := [(0, _), (5, _)]) (.same rfl (.same rfl .nil)) ?_
  refine Fin.next ?_
  refine Tr.cond rfl (fun hb0 => ?_) (fun hb0 => ?_)
  · try simp only [decide_eq_true_eq, decide_eq_false_iff_not, beq_iff_eq, beq_eq_false_iff_ne, bne_iff_ne, bne_eq_false_iff_eq, Bool.and_eq_true, Bool.and_eq_false_iff, Bool.or_eq_true, Bool.or_eq_false_iff, Bool.not_eq_true', Bool.not_eq_false', gt_iff_lt, ge_iff_le, Int.not_lt, Int.not_le, ne_eq, Int.natCast_nonneg, true_and, and_true, Decidable.not_not, not_true_eq_false, not_false_eq_true] at hb0
    cases hb0
  · try simp only [decide_eq_true_eq, decide_eq_false_iff_not, beq_iff_eq, beq_eq_false_iff_ne, bne_iff_ne, bne_eq_false_iff_eq, Bool.and_eq_true, Bool.and_eq_false_iff, Bool.or_eq_true, Bool.or_eq_false_iff, Bool.not_eq_true', Bool.not_eq_false', gt_iff_lt, ge_iff_le, Int.not_lt, Int.not_le, ne_eq, Int.natCast_nonneg, true_and, and_true, Decidable.not_not, not_true_eq_false, not_false_eq_true] at hb0
    refine Tr.skip ?_
    refine Fin.next ?_
    refine Tr.seq ?_
    refine Tr.regionK T.mixed (by kernel_rfl) (by kernel_rfl) ?_
    refine ChainK.consS 6 (.plain rfl (.move rfl (.of rfl))) rfl ?_
    refine ChainK.consS 7 (.plain rfl (.nilCheckP rfl (.of rfl))) rfl ?_
    refine ChainK.consS 8 (.plain rfl (.fieldP rfl (.of rfl) T.fl183_0)) rfl ?_
    refine ChainK.consS 9 (.plain rfl (.loadR 2 rfl (.of rfl) rfl rfl rfl T.sc181)) rfl ?_
    refine ChainK.consS 10 (.plain rfl (.lenV 3 rfl (.of rfl) rfl Own.view rfl Try.underlying181)) rfl ?_
    refine ChainK.consS 11 (.plain rfl (.move rfl (.of rfl))) rfl ?_
    refine ChainK.consS 12 (.plain rfl (.nilCheckP rfl (.of rfl))) rfl ?_
    refine ChainK.consS 13 (.plain rfl (.fieldP rfl (.of rfl) T.fl183_1)) rfl ?_
    refine ChainK.consS 14 (.plain rfl (.loadR 2 rfl (.of rfl) rfl rfl rfl T.sc180)) rfl ?_
    refine ChainK.consS 15 (.plain rfl (.lenM 4 rfl (.of rfl) rfl rfl Try.underlying180)) rfl ?_
    first | refine ChainK.consS 16 (.plain rfl (.subI L.bd_i64 rfl (.of rfl) (.of rfl) (by omega) (by omega))) rfl ?_ | refine ChainK.consS 16 (.plain rfl (.sub rfl (.of rfl) (.of rfl))) rfl ?_
    refine ChainK.consS 17 (.plain rfl (.move rfl (.of rfl))) rfl ?_
    refine ChainK.consS 18 (.plain rfl (.nilCheckP rfl (.of rfl))) rfl ?_
    refine ChainK.consS 19 (.plain rfl (.fieldP rfl (.of rfl) T.fl183_0)) rfl ?_
    refine ChainK.consS 20 (.plain rfl (.loadR 2 rfl (.of rfl) rfl rfl rfl T.sc181)) rfl ?_
    refine ChainK.consS 21 (.plain rfl (.lenV 3 rfl (.of rfl) rfl Own.view rfl Try.underlying181)) rfl ?_
    refine ChainK.consS 2 (.plain rfl (.assign rfl (.of rfl))) rfl ?_
    refine ChainK.consS 3 (.plain rfl (.assign rfl (.of rfl))) rfl ?_
    refine ChainK.nil ?_
    refine Fin.keepG (Γ' := [(2, _), (3, _)]) (.same rfl (.same rfl .nil)) ?_
    refine Fin.next ?_
    refine Tr.ret ?_
    refine Fin.retGI 5 rfl (()) [] (rs := [_, _]) rfl (.cons (.tmp rfl) (.cons (.tmp rfl) .nil)) (.cons (L.iv ?_) (.cons (L.iv rfl) .nil)) rfl (.nil) rfl
    · rw [hlv]

/- (*tidepool/arena.Arena).Used -/
set_option maxRecDepth 100000 in
theorem F53 (b : Nat) (v : Value) (mr : Nat) (m : List (Int × Unit)) (es : List En) (hF : FreeM m es) (hok : okEs es) (hl : es.length ≤ 1000) : FnG Try.prog 53 [is (.pointer (some ⟨b, 0, none⟩))] [BlkR b [is v, is (.map (some mr))] 183, Own placeR 185 v es, MapR (intK .i64) unitR mr m] [] (γ := Unit) (fun _ => Lst handR (usedL es)) (fun _ => []) := by
  refine FnG.mk' Try.func53 T.nm53 rfl (N := 31) rfl rfl (t := 5) rfl fun B => ?_
  refine Tr.seq ?_
  refine Tr.region ?_
  refine TrL.stepS 2 (.plain rfl (.assign rfl (.of rfl))) rfl rfl ?_
  refine TrL.nil ?_
  refine Fin.next ?_
  refine Tr.seq ?_
  refine Tr.seq ?_
  refine Tr.region ?_
  refine TrL.stepS 6 (.plain rfl (.move rfl (.of rfl))) rfl rfl ?_
  refine TrL.stepS 7 (.plain rfl (.eqlPN rfl (.of rfl) (.of rfl) Try.underlying72)) rfl rfl ?_
  refine TrL.nil ?_
  refine Fin.keepG (Γ' := [(0, _), (2, _), (7, _)]) (.same rfl (.same rfl (.same rfl .nil))) ?_
  refine Fin.next ?_
  refine Tr.cond rfl (fun hb0 => ?_) (fun hb0 => ?_)
  · try simp only [decide_eq_true_eq, decide_eq_false_iff_not, beq_iff_eq, beq_eq_false_iff_ne, bne_iff_ne, bne_eq_false_iff_eq, Bool.and_eq_true, Bool.and_eq_false_iff, Bool.or_eq_true, Bool.or_eq_false_iff, Bool.not_eq_true', Bool.not_eq_false', gt_iff_lt, ge_iff_le, Int.not_lt, Int.not_le, ne_eq, Int.natCast_nonneg, true_and, and_true, Decidable.not_not, not_true_eq_false, not_false_eq_true] at hb0
    cases hb0
  · try simp only [decide_eq_true_eq, decide_eq_false_iff_not, beq_iff_eq, beq_eq_false_iff_ne, bne_iff_ne, bne_eq_false_iff_eq, Bool.and_eq_true, Bool.and_eq_false_iff, Bool.or_eq_true, Bool.or_eq_false_iff, Bool.not_eq_true', Bool.not_eq_false', gt_iff_lt, ge_iff_le, Int.not_lt, Int.not_le, ne_eq, Int.natCast_nonneg, true_and, and_true, Decidable.not_not, not_true_eq_false, not_false_eq_true] at hb0
    refine Tr.skip ?_
    refine Fin.next ?_
    refine Tr.seq ?_
    refine Tr.seq ?_
    refine Tr.own0 30 handR 75 rfl ?_
    refine Tr.region ?_
    refine TrL.stepS 8 (.plain rfl (.move rfl (.of rfl))) rfl rfl ?_
    refine TrL.stepS 9 (.plain rfl (.nilCheckP rfl (.of rfl))) rfl rfl ?_
    refine TrL.stepS 10 (.plain rfl (.fieldP rfl (.of rfl) T.fl183_0)) rfl rfl ?_
    refine TrL.stepS 11 (.plain rfl (.loadR 2 rfl (.of rfl) rfl rfl rfl T.sc181)) rfl rfl ?_
    refine TrL.stepS 12 (.plain rfl (.lenV 3 rfl (.of rfl) rfl Own.view rfl Try.underlying181)) rfl rfl ?_
    refine TrL.stepS 13 (.plain rfl (.move rfl (.of rfl))) rfl rfl ?_
    refine TrL.nil ?_
    refine Fin.keepG (Γ' := [(0, _), (2, _), (11, _), (12, _), (13, _)]) (.same rfl (.same rfl (.same rfl (.same rfl (.same rfl .nil))))) ?_
    refine Fin.next ?_
    refine Tr.block ?_
    refine Tr.loopK (γ := Nat × Value) (Γk := [(0, _), (11, _), (12, _)]) (Mk := [(2, _), (3, _), (4, _)]) (.same rfl (.same rfl (.same rfl .nil))) (.same rfl (.same rfl (.same rfl .nil))) (fun gp => gp.1 ≤ es.length) (fun gp => fun r => (30, Own handR 75 gp.2 (usedL (es.take gp.1))) :: r) (fun gp => fun r => (2, is gp.2) :: (13, is (.int .i64 gp.1)) :: r) (fun gp => es.length - gp.1) ((0, .slice none 0 0)) ?h0_0 ?hM_0 ?hG_0 ?hl_0
    case h0_0 => exact Nat.zero_le _
    case hM_0 => exact (.same rfl (.same rfl (.same rfl (.same rfl .nil))))
    case hG_0 => exact (.eq rfl (by first | rfl | (congr 1; first | done | omega | (push_cast; omega) | (push_cast; rfl))) (.eq rfl (by first | rfl | (congr 1; first | done | omega | (push_cast; omega) | (push_cast; rfl))) (.same rfl (.same rfl (.same rfl .nil)))))
    case hl_0 =>
      intro p hI
      obtain ⟨i, u⟩ := p
      dsimp only at hI ⊢
      refine Tr.seq ?_
      refine Tr.region ?_
      refine TrL.stepS 14 (.plain rfl (.lss rfl (.of rfl) (.of rfl))) rfl rfl ?_
      refine TrL.nil ?_
      refine Fin.next ?_
      refine Tr.seq ?_
      refine Tr.cond rfl (fun hb1 => ?_) (fun hb1 => ?_)
      · try simp only [decide_eq_true_eq, decide_eq_false_iff_not, beq_iff_eq, beq_eq_false_iff_ne, bne_iff_ne, bne_eq_false_iff_eq, Bool.and_eq_true, Bool.and_eq_false_iff, Bool.or_eq_true, Bool.or_eq_false_iff, Bool.not_eq_true', Bool.not_eq_false', gt_iff_lt, ge_iff_le, Int.not_lt, Int.not_le, ne_eq, Int.natCast_nonneg, true_and, and_true, Decidable.not_not, not_true_eq_false, not_false_eq_true] at hb1
        obtain ⟨e, he⟩ := ex_get (xs := es) (i := i) (by omega)
        have hli := hasE_live he
        refine Tr.skip ?_
        refine Fin.next ?_
        refine Tr.seq ?_
        refine Tr.block ?_
        refine Tr.seq ?_
        refine Tr.region ?_
        refine TrL.stepS 15 (.plain rfl (.move rfl (.of rfl))) rfl rfl ?_
        refine TrL.stepS 16 (.plain rfl (.indexN 3 (i) rfl (.of rfl) (.of rfl) rfl Own.view rfl Try.underlying181 T.sz185 (by omega) (he))) rfl rfl ?_
        refine TrL.stepS 17 (.plain rfl (.loadWN 3 (i) 0 5 rfl (.of rfl) rfl Own.view rfl (he) rfl rfl T.ag185)) rfl rfl ?_
        refine TrL.allocR 40 (zs := [.bool false, .slice none 0 0, .slice none 0 0, .slice none 0 0, .int .i64 0]) rfl rfl (by kernel_rfl) 4 rfl rfl rfl fun b40 => ?_
        refine TrL.stepS 3 (.plain rfl (.assign rfl (.of rfl))) rfl rfl ?_
        refine TrL.storeRW 40 rfl rfl rfl (.of rfl) (.of rfl) rfl rfl ((L.all1_cons (L.h1is rfl rfl) (L.all1_cons (L.h1lst) (L.all1_cons (L.h1lst) (L.all1_cons (L.h1lst) (L.all1_cons (L.h1is rfl rfl) L.all1_nil)))))) T.sz185 rfl ?_
        refine TrL.nil ?_
        refine Fin.keepG (Γ' := [(0, _), (2, _), (3, _), (4, _), (11, _), (12, _), (13, _)]) (.same rfl (.same rfl (.same rfl (.same rfl (.same rfl (.same rfl (.same rfl .nil))))))) ?_
        refine Fin.next ?_
        refine Tr.seq ?_
        refine Tr.region ?_
        refine TrL.stepS 18 (.plain rfl (.move rfl (.of rfl))) rfl rfl ?_
        refine TrL.stepS 19 (.plain rfl (.fieldP rfl (.of rfl) T.fl185_1)) rfl rfl ?_
        refine TrL.stepS 20 (.plain rfl (.loadR 40 rfl (.of rfl) rfl rfl rfl T.sc3)) rfl rfl ?_
        refine TrL.stepS 21 (.plain rfl (.build rfl (.cons (.of rfl) (.cons (.of rfl) .nil)) (T.Y4bd75_0_1 _ _))) rfl rfl ?_
        refine TrL.allocS 41 (zs := [.int .i64 0, .int .i64 0]) rfl rfl (by kernel_rfl) 5 rfl rfl rfl fun b41 => ?_
        refine TrL.storeW 41 (vs := [_, _]) rfl rfl rfl (.of rfl) (.of rfl) rfl rfl T.sz75 rfl rfl ?_
        refine TrL.nil ?_
        refine Fin.keepG (Γ' := [(0, _), (2, _), (5, _), (11, _), (12, _), (13, _)]) (.same rfl (.same rfl (.same rfl (.same rfl (.same rfl (.same rfl .nil)))))) ?_
        refine Fin.next ?_
        refine Tr.seq ?_
        refine Tr.region ?_
        refine TrL.stepS 22 (.plain rfl (.move rfl (.of rfl))) rfl rfl ?_
        refine TrL.stepS 23 (.plain rfl (.loadBN 41 (k := 2) (ds := [_, _]) rfl (.of rfl) rfl rfl rfl T.ag75 rfl)) rfl rfl ?_
        refine TrL.stepS 24 (.plain rfl (.callR [2, 3, 4] rfl (F48 b v mr m es hF hok hl i e.2.1) (.cons (.of rfl) (.cons (.of rfl) .nil)) (.same rfl (.same rfl (.same rfl .nil))) rfl)) rfl rfl ?_
        refine TrL.nil ?_
        refine Fin.keepG (Γ' := [(0, _), (2, _), (5, _), (11, _), (12, _), (13, _), (24, _)]) (.same rfl (.same rfl (.same rfl (.same rfl (.same rfl (.same rfl (.same rfl .nil))))))) ?_
        refine Fin.next ?_
        refine Tr.cond rfl (fun hb2 => ?_) (fun hb2 => ?_)
        · try simp only [decide_eq_true_eq, decide_eq_false_iff_not, beq_iff_eq, beq_eq_false_iff_ne, bne_iff_ne, bne_eq_false_iff_eq, Bool.and_eq_true, Bool.and_eq_false_iff, Bool.or_eq_true, Bool.or_eq_false_iff, Bool.not_eq_true', Bool.not_eq_false', gt_iff_lt, ge_iff_le, Int.not_lt, Int.not_le, ne_eq, Int.natCast_nonneg, true_and, and_true, Decidable.not_not, not_true_eq_false, not_false_eq_true] at hb2
          refine Tr.region ?_
          refine TrL.stepS 25 (.plain rfl (.move rfl (.of rfl))) rfl rfl ?_
          refine TrL.stepS 26 (.plain rfl (.loadBN 41 (k := 2) (ds := [_, _]) rfl (.of rfl) rfl rfl rfl T.ag75 rfl)) rfl rfl ?_
          refine TrL.stepS 27 (.plain rfl (.slice (K := handR) (xs := [_]) rfl (.cons (.map (.of rfl) (handR_elem _ _)) .nil) Try.underlying78 T.sz75 T.zb75 rfl (by decide))) rfl rfl ?_
          refine TrL.appendS 30 (bytes := 16) rfl rfl 28 rfl rfl (.of rfl) rfl rfl (.of rfl) Try.underlying78 T.el75 (by simp) (by simp; have := usedL_len (es.take i); simp at this; omega) (by simp only [maxLen, List.length_append, List.length_cons, List.length_nil]; have := usedL_len (es.take i); rw [List.length_take] at this; omega) fun v28 => ?_
          refine TrL.stepS 2 (.plain rfl (.assign rfl (.of rfl))) rfl rfl ?_
          refine TrL.nil ?_
          refine Fin.keepG (Γ' := [(0, _), (2, _), (11, _), (12, _), (13, _)]) (.same rfl (.same rfl (.same rfl (.same rfl (.same rfl .nil))))) ?_
          refine Fin.blockNormal ?_
          refine Fin.next ?_
          refine Tr.region ?_
          first | refine TrL.stepS 29 (.plain rfl (.addI L.bd_i64 rfl (.of rfl) (.of rfl) (by omega) (by omega))) rfl rfl ?_ | refine TrL.stepS 29 (.plain rfl (.add rfl (.of rfl) (.of rfl))) rfl rfl ?_
          refine TrL.stepS 13 (.plain rfl (.move rfl (.of rfl))) rfl rfl ?_
          refine TrL.nil ?_
          refine Fin.keepG (Γ' := [(0, _), (2, _), (11, _), (12, _), (13, _)]) (.same rfl (.same rfl (.same rfl (.same rfl (.same rfl .nil))))) ?_
          exact Fin.again ((i + 1, v28)) (by dsimp only; omega) (by dsimp only; omega) (.cons rfl (fun F L w h => by dsimp only; rw [take_snoc he, usedL_snoc, if_pos (by rw [← hli]; exact hb2), List.length_take, show min i es.length = i by omega]; exact h) (.same rfl (.same rfl (.same rfl .nil)))) (.eq rfl (by first | rfl | (congr 1; first | done | omega | (push_cast; omega) | (push_cast; rfl))) (.eq rfl (by first | rfl | (congr 1; first | done | omega | (push_cast; omega) | (push_cast; rfl))) (.same rfl (.same rfl (.same rfl .nil)))))
        · try simp only [decide_eq_true_eq, decide_eq_false_iff_not, beq_iff_eq, beq_eq_false_iff_ne, bne_iff_ne, bne_eq_false_iff_eq, Bool.and_eq_true, Bool.and_eq_false_iff, Bool.or_eq_true, Bool.or_eq_false_iff, Bool.not_eq_true', Bool.not_eq_false', gt_iff_lt, ge_iff_le, Int.not_lt, Int.not_le, ne_eq, Int.natCast_nonneg, true_and, and_true, Decidable.not_not, not_true_eq_false, not_false_eq_true] at hb2
          refine Tr.skip ?_
          refine Fin.blockNormal ?_
          refine Fin.next ?_
          refine Tr.region ?_
          first | refine TrL.stepS 29 (.plain rfl (.addI L.bd_i64 rfl (.of rfl) (.of rfl) (by omega) (by omega))) rfl rfl ?_ | refine TrL.stepS 29 (.plain rfl (.add rfl (.of rfl) (.of rfl))) rfl rfl ?_
          refine TrL.stepS 13 (.plain rfl (.move rfl (.of rfl))) rfl rfl ?_
          refine TrL.nil ?_
          refine Fin.keepG (Γ' := [(0, _), (2, _), (11, _), (12, _), (13, _)]) (.same rfl (.same rfl (.same rfl (.same rfl (.same rfl .nil))))) ?_
          exact Fin.again ((i + 1, u)) (by dsimp only; omega) (by dsimp only; omega) (.cons rfl (fun F L w h => by dsimp only; rw [take_snoc he, usedL_snoc, if_neg (by rw [← hli]; simp [hb2]), List.append_nil]; exact h) (.same rfl (.same rfl (.same rfl .nil)))) (.eq rfl (by first | rfl | (congr 1; first | done | omega | (push_cast; omega) | (push_cast; rfl))) (.eq rfl (by first | rfl | (congr 1; first | done | omega | (push_cast; omega) | (push_cast; rfl))) (.same rfl (.same rfl (.same rfl .nil)))))
      · try simp only [decide_eq_true_eq, decide_eq_false_iff_not, beq_iff_eq, beq_eq_false_iff_ne, bne_iff_ne, bne_eq_false_iff_eq, Bool.and_eq_true, Bool.and_eq_false_iff, Bool.or_eq_true, Bool.or_eq_false_iff, Bool.not_eq_true', Bool.not_eq_false', gt_iff_lt, ge_iff_le, Int.not_lt, Int.not_le, ne_eq, Int.natCast_nonneg, true_and, and_true, Decidable.not_not, not_true_eq_false, not_false_eq_true] at hb1
        rw [List.take_of_length_le (show es.length ≤ i by omega)]
        refine Tr.exit ?_
        refine Fin.thenExit ?_
        refine Fin.thenExit ?_
        refine Fin.blockOut ?_
        refine Fin.next ?_
        refine Tr.seq ?_
        refine Tr.region ?_
        refine TrL.stepS 30 (.plain rfl (.move rfl (.of rfl))) rfl rfl ?_
        refine TrL.stepS 2 (.plain rfl (.assign rfl (.of rfl))) rfl rfl ?_
        refine TrL.nil ?_
        refine Fin.keepG (Γ' := [(2, _)]) (.same rfl .nil) ?_
        refine Fin.next ?_
        refine Tr.ret ?_
        refine Fin.freeze 30 2 rfl rfl rfl ?_
        exact Fin.retGI 5 rfl (()) [] (rs := [_]) rfl (.cons (.tmp rfl) .nil) (.cons (fun _ _ h => h) .nil) rfl (.nil) rfl

end Go.Proofs.Ytemkogoclljhpaa