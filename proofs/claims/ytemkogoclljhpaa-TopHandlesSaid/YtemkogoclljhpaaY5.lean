import Derived.Test.YtemkogoclljhpaaY4
namespace Go.Proofs.Ytemkogoclljhpaa
open Go Go.Proofs.Ytemkogoclljhpaa.L
set_option linter.unusedVariables false
set_option linter.unusedSimpArgs false

namespace T
theorem Y5bd75_0_1 (c0 : Int) (c1 : Int) : Try.prog.built 75 [(0, .int .i64 c0), (1, .int .i64 c1)] = some #[.int .i64 c0, .int .i64 c1] := by kernel_rfl
theorem Y5bd81  : Try.prog.built 81 [] = some #[.bool false, .slice none 0 0, .slice none 0 0, .slice none 0 0] := by kernel_rfl
theorem Y5bd185  : Try.prog.built 185 [] = some #[.bool false, .slice none 0 0, .slice none 0 0, .slice none 0 0, .int .i64 0] := by kernel_rfl
theorem Y5bd189  : Try.prog.built 189 [] = some #[] := by kernel_rfl
end T


theorem key_mem {m : List (Int × Unit)} {a : Int} : (mapGet m a).isSome = true ↔ a ∈ m.map (·.1) := by
  cases hg : mapGet m a with
  | none => simp only [Option.isSome_none, Bool.false_eq_true, false_iff]; intro hc; obtain ⟨p, hp, rfl⟩ := List.mem_map.1 hc; exact mapGet_none.1 hg p hp rfl
  | some u =>
    simp only [Option.isSome_some, true_iff]
    apply Classical.byContradiction
    intro hc
    have : mapGet m a = none := mapGet_none.2 fun p hp e => hc (List.mem_map.2 ⟨p, hp, e⟩)
    rw [hg] at this; cases this
theorem del_keys {m : List (Int × Unit)} {a c : Int} : c ∈ (mapDel m a).map (·.1) ↔ c ≠ a ∧ c ∈ m.map (·.1) := by
  unfold mapDel
  simp only [List.mem_map, List.mem_filter]
  constructor
  · rintro ⟨p, ⟨hp, hq⟩, rfl⟩; exact ⟨by simpa using hq, p, hp, rfl⟩
  · rintro ⟨hne, p, hp, rfl⟩; exact ⟨p, ⟨hp, by simpa using hne⟩, rfl⟩
theorem put_keys (m : List (Int × Unit)) (a : Int) : (mapPut m a ()).map (·.1) = if (mapGet m a).isSome then m.map (·.1) else m.map (·.1) ++ [a] := by
  unfold mapPut
  split
  · rw [List.map_map]
    refine List.map_congr_left fun p _ => ?_
    show (if p.1 = a then (a, ()) else p).1 = p.1
    split
    · rename_i h; exact h.symm
    · rfl
  · rw [List.map_append]; rfl
def extE (es : List En) : List En := if fr es = es.length then es ++ [zE] else es
theorem extE_get (es : List En) : ∃ e, (extE es)[fr es]? = some e := by
  have := fr_le es
  unfold extE
  split
  · rename_i h; exact ⟨zE, by rw [h, List.getElem?_append_right (Nat.le_refl _)]; simp⟩
  · exact ex_get (by omega)
def makeG (es : List En) : Int := ((extE es).getD (fr es) zE).2.1 + 1
def makeE (es : List En) (x : Nd) : List En := (extE es).set (fr es) (x, makeG es, true)
theorem extE_ok {es : List En} (h : okEs es) {e : En} (he : (extE es)[fr es]? = some e) : okN e.1 ∧ 0 ≤ e.2.1 ∧ e.2.1 ≤ 1000 := by
  unfold extE at he
  split at he
  · have := List.mem_of_getElem? he
    rw [List.mem_append] at this
    rcases this with h' | h'
    · exact h e h'
    · simp only [List.mem_singleton] at h'; subst h'; exact ⟨⟨by decide, by decide, by decide⟩, by decide, by decide⟩
  · exact h.get he
theorem FreeM.make {m : List (Int × Unit)} {es : List En} (h : FreeM m es) (x : Nd) : FreeM (mapDel m (fr es : Int)) (makeE es x) := by
  refine ⟨h.1.sublist (List.filter_sublist.map _), fun a => ?_⟩
  rw [key_mem, del_keys, ← key_mem, h.2 a]
  have hle := fr_le es
  have hnf : ∀ i e, i ≠ fr es → (((makeE es x)[i]? = some e ∧ e.2.2 = false) ↔ (es[i]? = some e ∧ e.2.2 = false)) := by
    intro i e hi
    unfold makeE
    rw [List.getElem?_set_ne (fun h' => hi h'.symm)]
    unfold extE
    split
    · rename_i hq
      rcases Nat.lt_or_ge i es.length with h1 | h1
      · rw [List.getElem?_append_left h1]
      · rw [List.getElem?_eq_none (by simp; omega), List.getElem?_eq_none h1]
    · exact Iff.rfl
  constructor
  · rintro ⟨hne, i, e, rfl, he⟩
    have hi : i ≠ fr es := fun e => hne (by rw [e])
    exact ⟨i, e, rfl, (hnf i e hi).2 he⟩
  · rintro ⟨i, e, rfl, he⟩
    by_cases hi : i = fr es
    · subst hi
      obtain ⟨e0, h0⟩ := extE_get es
      unfold makeE at he
      rw [List.getElem?_set_self (getL_len h0)] at he
      have := he.1; cases this; simp at he
    · exact ⟨fun e => hi (by omega), i, e, rfl, (hnf i e hi).1 he⟩
def fstep (es : List En) (h : Int × Int) : List En := es.set h.1.toNat (zN, (es.getD h.1.toNat zE).2.1, false)
def freeE (es : List En) (hs : List (Int × Int)) : List En := hs.foldl fstep es
def freeMs (m : List (Int × Unit)) (hs : List (Int × Int)) : List (Int × Unit) := hs.foldl (fun m h => mapPut m h.1 ()) m
theorem freeE_snoc (es : List En) (hs : List (Int × Int)) (h : Int × Int) : freeE es (hs ++ [h]) = fstep (freeE es hs) h := by simp [freeE]
theorem freeMs_snoc (m : List (Int × Unit)) (hs : List (Int × Int)) (h : Int × Int) : freeMs m (hs ++ [h]) = mapPut (freeMs m hs) h.1 () := by simp [freeMs]
theorem fstep_len (es : List En) (h : Int × Int) : (fstep es h).length = es.length := by simp [fstep]
theorem freeE_len (hs : List (Int × Int)) : ∀ es : List En, (freeE es hs).length = es.length := by
  induction hs with
  | nil => intro es; rfl
  | cons h hs ih => intro es; show (freeE (fstep es h) hs).length = _; rw [ih, fstep_len]
def freeOk (es : List En) (hs : List (Int × Int)) : Bool := hs.all (fun h => hasE es h.1 h.2) && decide hs.Nodup
theorem freeOk_snoc (es : List En) (hs : List (Int × Int)) (h : Int × Int) : freeOk es (hs ++ [h]) = (freeOk es hs && hasE es h.1 h.2 && !decide (h ∈ hs)) := by
  unfold freeOk
  rw [Bool.eq_iff_iff]
  simp only [List.all_append, List.all_cons, List.all_nil, Bool.and_true, Bool.and_eq_true, decide_eq_true_eq, List.nodup_append, Bool.not_eq_true', decide_eq_false_iff_not, List.mem_singleton, forall_eq]
  constructor
  · rintro ⟨⟨h1, h2⟩, h3, _, h4⟩; exact ⟨⟨⟨h1, h3⟩, h2⟩, fun hm => h4 h hm rfl⟩
  · rintro ⟨⟨⟨h1, h3⟩, h2⟩, h4⟩; exact ⟨⟨h1, h2⟩, h3, by simp, fun a ha e => h4 (e ▸ ha)⟩
theorem freeOk_take {es : List En} {hs : List (Int × Int)} (k : Nat) (h : freeOk es hs = true) : freeOk es (hs.take k) = true := by
  unfold freeOk at *
  rw [Bool.and_eq_true] at *
  exact ⟨List.all_eq_true.2 fun x hx => List.all_eq_true.1 h.1 x (List.mem_of_mem_take hx), by simpa using (by simpa using h.2 : hs.Nodup).sublist (List.take_sublist k hs)⟩
theorem freeOk_has {es : List En} {hs : List (Int × Int)} (h : freeOk es hs = true) {x : Int × Int} (hx : x ∈ hs) : hasE es x.1 x.2 = true := by
  unfold freeOk at h; rw [Bool.and_eq_true] at h; exact List.all_eq_true.1 h.1 x hx
theorem FreeM.step {m : List (Int × Unit)} {es : List En} (h : FreeM m es) {x : Int × Int} (h0 : 0 ≤ x.1) (hl : x.1.toNat < es.length) : FreeM (mapPut m x.1 ()) (fstep es x) := by
  refine ⟨?_, fun a => ?_⟩
  · rw [put_keys]
    split
    · exact h.1
    · rename_i hn
      rw [key_mem] at hn
      rw [List.nodup_append]
      exact ⟨h.1, by simp, fun a ha b hb => by simp at hb; subst hb; exact fun e => hn (e ▸ ha)⟩
  · have hk : a ∈ (mapPut m x.1 ()).map (·.1) ↔ a = x.1 ∨ a ∈ m.map (·.1) := by
      rw [put_keys]
      split
      · rename_i hs
        rw [key_mem] at hs
        exact ⟨.inr, fun h' => h'.elim (fun e => e ▸ hs) id⟩
      · simp [or_comm]
    rw [key_mem, hk, ← key_mem, h.2 a]
    unfold fstep
    constructor
    · rintro (rfl | ⟨i, e, rfl, he, hf⟩)
      · exact ⟨x.1.toNat, _, by omega, List.getElem?_set_self hl, rfl⟩
      · by_cases hi : i = x.1.toNat
        · subst hi; exact ⟨x.1.toNat, _, rfl, List.getElem?_set_self hl, rfl⟩
        · exact ⟨i, e, rfl, by rw [List.getElem?_set_ne (fun h' => hi h'.symm)]; exact he, hf⟩
    · rintro ⟨i, e, rfl, he, hf⟩
      by_cases hi : i = x.1.toNat
      · exact .inl (by omega)
      · rw [List.getElem?_set_ne (fun h' => hi h'.symm)] at he
        exact .inr ⟨i, e, rfl, he, hf⟩
theorem FreeM.frees {hs : List (Int × Int)} : ∀ {m : List (Int × Unit)} {es : List En}, FreeM m es → (∀ x ∈ hs, 0 ≤ x.1 ∧ x.1.toNat < es.length) → FreeM (freeMs m hs) (freeE es hs) := by
  induction hs with
  | nil => intro m es h _; exact h
  | cons x hs ih =>
    intro m es h hx
    have := hx x (by simp)
    exact ih (h.step this.1 this.2) fun y hy => by rw [fstep_len]; exact hx y (by simp [hy])

/- (*tidepool/arena.Arena).Make -/
set_option maxRecDepth 100000 in
theorem F44 (b : Nat) (v : Value) (mr : Nat) (m : List (Int × Unit)) (es : List En) (hF : FreeM m es) (hok : okEs es) (hl : es.length ≤ 1000) (x : Nd) (hx : okN x) (u : Value) : FnG Try.prog 44 [is (.pointer (some ⟨b, 0, none⟩)), AggR [is (.bool x.1), Lst strR x.2.1, Lst handR x.2.2.1, is u]] [View (intR .i64) u x.2.2.2] [BlkR b [is v, is (.map (some mr))] 183, Own placeR 185 v es, MapR (intK .i64) unitR mr m] (γ := Value) (fun v' => is (.agg #[.int .i64 (fr es : Nat), .int .i64 (makeG es)])) (fun v' => [BlkR b [is v', is (.map (some mr))] 183, Own placeR 185 v' (makeE es x), MapR (intK .i64) unitR mr (mapDel m (fr es : Int))]) := by
  have hfl := fr_le es
  obtain ⟨e1, he1⟩ := extE_get es
  have hok1 := extE_ok hok he1
  have hmg : makeG es = e1.2.1 + 1 := by unfold makeG; rw [getD_of he1]
  refine FnG.mk' Try.func44 T.nm44 rfl (N := 58) rfl rfl (t := 3) rfl fun B => ?_
  refine Tr.seq ?_
  refine Tr.region ?_
  refine TrL.boxF 20 rfl rfl (.of rfl) 3 rfl rfl rfl fun b20 => ?_
  refine TrL.allocS 21 (zs := [.int .i64 0, .int .i64 0]) rfl rfl (by kernel_rfl) 4 rfl rfl rfl fun b21 => ?_
  refine TrL.nil ?_
  refine Fin.keepG (Γ' := [(0, _), (3, _), (4, _)]) (.same rfl (.same rfl (.same rfl .nil))) ?_
  refine Fin.next ?_
  refine Tr.seq ?_
  refine Tr.seq ?_
  refine Tr.region ?_
  refine TrL.stepS 7 (.plain rfl (.move rfl (.of rfl))) rfl rfl ?_
  refine TrL.stepS 8 (.plain rfl (.eqlPN rfl (.of rfl) (.of rfl) Try.underlying72)) rfl rfl ?_
  refine TrL.nil ?_
  refine Fin.keepG (Γ' := [(0, _), (3, _), (4, _), (8, _)]) (.same rfl (.same rfl (.same rfl (.same rfl .nil)))) ?_
  refine Fin.next ?_
  refine Tr.cond rfl (fun hb0 => ?_) (fun hb0 => ?_)
  · try simp only [decide_eq_true_eq, decide_eq_false_iff_not, beq_iff_eq, beq_eq_false_iff_ne, bne_iff_ne, bne_eq_false_iff_eq, Bool.and_eq_true, Bool.and_eq_false_iff, Bool.or_eq_true, Bool.or_eq_false_iff, Bool.not_eq_true', Bool.not_eq_false', gt_iff_lt, ge_iff_le, Int.not_lt, Int.not_le, ne_eq, Int.natCast_nonneg, true_and, and_true, Decidable.not_not, not_true_eq_false, not_false_eq_true] at hb0
    cases hb0
  · try simp only [decide_eq_true_eq, decide_eq_false_iff_not, beq_iff_eq, beq_eq_false_iff_ne, bne_iff_ne, bne_eq_false_iff_eq, Bool.and_eq_true, Bool.and_eq_false_iff, Bool.or_eq_true, Bool.or_eq_false_iff, Bool.not_eq_true', Bool.not_eq_false', gt_iff_lt, ge_iff_le, Int.not_lt, Int.not_le, ne_eq, Int.natCast_nonneg, true_and, and_true, Decidable.not_not, not_true_eq_false, not_false_eq_true] at hb0
    refine Tr.skip ?_
    refine Fin.next ?_
    refine Tr.seq ?_
    refine Tr.region ?_
    refine TrL.stepS 10 (.plain rfl (.move rfl (.of rfl))) rfl rfl ?_
    refine TrL.stepS 11 (.plain rfl (.callR [3, 4, 5] rfl (F118 b v mr m es hF hok hl) (.cons (.of rfl) .nil) (.same rfl (.same rfl (.same rfl .nil))) rfl)) rfl rfl ?_
    refine TrL.stepS 5 (.plain rfl (.assign rfl (.of rfl))) rfl rfl ?_
    refine TrL.nil ?_
    refine Fin.keepG (Γ' := [(0, _), (3, _), (4, _), (5, _)]) (.same rfl (.same rfl (.same rfl (.same rfl .nil)))) ?_
    refine Fin.next ?_
    refine Tr.seqJK (γ := Value) (Γk := [(0, _), (3, _), (4, _), (5, _)]) (Mk := [(2, _), (5, _), (20, _), (21, _)]) (.same rfl (.same rfl (.same rfl (.same rfl .nil)))) (.same rfl (.same rfl (.same rfl (.same rfl .nil)))) (fun v1 => True) (fun v1 => fun r => (3, BlkR b [is v1, is (.map (some mr))] 183) :: (4, Own placeR 185 v1 (extE es)) :: r) (fun v1 => fun r => r) ?jx6 ?jk6
    case jx6 =>
      refine Tr.seq ?_
      refine Tr.region ?_
      refine TrL.stepS 12 (.plain rfl (.move rfl (.of rfl))) rfl rfl ?_
      refine TrL.stepS 13 (.plain rfl (.move rfl (.of rfl))) rfl rfl ?_
      refine TrL.stepS 14 (.plain rfl (.nilCheckP rfl (.of rfl))) rfl rfl ?_
      refine TrL.stepS 15 (.plain rfl (.fieldP rfl (.of rfl) T.fl183_0)) rfl rfl ?_
      refine TrL.stepS 16 (.plain rfl (.loadR 3 rfl (.of rfl) rfl rfl rfl T.sc181)) rfl rfl ?_
      refine TrL.stepS 17 (.plain rfl (.lenV 4 rfl (.of rfl) rfl Own.view rfl Try.underlying181)) rfl rfl ?_
      refine TrL.stepS 18 (.plain rfl (.eql rfl (.of rfl) (.of rfl))) rfl rfl ?_
      refine TrL.nil ?_
      refine Fin.keepG (Γ' := [(0, _), (3, _), (4, _), (5, _), (18, _)]) (.same rfl (.same rfl (.same rfl (.same rfl (.same rfl .nil))))) ?_
      refine Fin.next ?_
      refine Tr.cond rfl (fun hb1 => ?_) (fun hb1 => ?_)
      · try simp only [decide_eq_true_eq, decide_eq_false_iff_not, beq_iff_eq, beq_eq_false_iff_ne, bne_iff_ne, bne_eq_false_iff_eq, Bool.and_eq_true, Bool.and_eq_false_iff, Bool.or_eq_true, Bool.or_eq_false_iff, Bool.not_eq_true', Bool.not_eq_false', gt_iff_lt, ge_iff_le, Int.not_lt, Int.not_le, ne_eq, Int.natCast_nonneg, true_and, and_true, Decidable.not_not, not_true_eq_false, not_false_eq_true] at hb1
        refine Tr.region ?_
        refine TrL.stepS 19 (.plain rfl (.move rfl (.of rfl))) rfl rfl ?_
        refine TrL.stepS 20 (.plain rfl (.move rfl (.of rfl))) rfl rfl ?_
        refine TrL.stepS 21 (.plain rfl (.nilCheckP rfl (.of rfl))) rfl rfl ?_
        refine TrL.stepS 22 (.plain rfl (.fieldP rfl (.of rfl) T.fl183_0)) rfl rfl ?_
        refine TrL.stepS 23 (.plain rfl (.loadR 3 rfl (.of rfl) rfl rfl rfl T.sc181)) rfl rfl ?_
        refine TrL.stepS 24 (.plain rfl (.build rfl .nil (T.Y5bd185))) rfl rfl ?_
        refine TrL.stepS 25 (.plain rfl (.slice (K := placeR) (xs := [_]) rfl (.cons (.map (.of rfl) zE_elem) .nil) Try.underlying181 T.sz185 T.zb185 rfl (by decide))) rfl rfl ?_
        refine TrL.appendS 4 (bytes := 88) rfl rfl 26 rfl rfl (.of rfl) rfl rfl (.of rfl) Try.underlying181 T.el185 (by simp) (by simp; omega) (by simp only [maxLen, List.length_append, List.length_cons, List.length_nil, List.length_map, List.length_take]; omega) fun v26 => ?_
        refine TrL.stepS 27 (.plain rfl (.nilCheckP rfl (.of rfl))) rfl rfl ?_
        refine TrL.stepS 28 (.plain rfl (.fieldP rfl (.of rfl) T.fl183_0)) rfl rfl ?_
        refine TrL.memP 4 rfl rfl own_form fun hf => ?_
        refine TrL.storeR1 3 rfl rfl rfl (.of rfl) (.of rfl) rfl rfl (L.h1sl hf) T.sz181 rfl ?_
        refine TrL.nil ?_
        refine Fin.keepG (Γ' := [(0, _), (3, _), (4, _), (5, _)]) (.same rfl (.same rfl (.same rfl (.same rfl .nil)))) ?_
        exact Fin.reach (v26) (trivial) (.same rfl (.cons rfl (fun F L w h => by unfold extE; rw [if_pos (by omega)]; exact h) (.same rfl (.same rfl (.same rfl (.same rfl .nil)))))) (.same rfl (.same rfl (.same rfl (.same rfl .nil))))
      · try simp only [decide_eq_true_eq, decide_eq_false_iff_not, beq_iff_eq, beq_eq_false_iff_ne, bne_iff_ne, bne_eq_false_iff_eq, Bool.and_eq_true, Bool.and_eq_false_iff, Bool.or_eq_true, Bool.or_eq_false_iff, Bool.not_eq_true', Bool.not_eq_false', gt_iff_lt, ge_iff_le, Int.not_lt, Int.not_le, ne_eq, Int.natCast_nonneg, true_and, and_true, Decidable.not_not, not_true_eq_false, not_false_eq_true] at hb1
        refine Tr.skip ?_
        exact Fin.reach (v) (trivial) (.same rfl (.cons rfl (fun F L w h => by unfold extE; rw [if_neg (by omega)]; exact h) (.same rfl (.same rfl (.same rfl (.same rfl .nil)))))) (.same rfl (.same rfl (.same rfl (.same rfl .nil))))
    case jk6 =>
      intro v1 hI
      refine Tr.seq ?_
      refine Tr.region ?_
      refine TrL.stepS 29 (.plain rfl (.move rfl (.of rfl))) rfl rfl ?_
      refine TrL.stepS 30 (.plain rfl (.nilCheckP rfl (.of rfl))) rfl rfl ?_
      refine TrL.stepS 31 (.plain rfl (.fieldP rfl (.of rfl) T.fl183_1)) rfl rfl ?_
      refine TrL.stepS 32 (.plain rfl (.loadR 3 rfl (.of rfl) rfl rfl rfl T.sc180)) rfl rfl ?_
      refine TrL.stepS 33 (.plain rfl (.move rfl (.of rfl))) rfl rfl ?_
      refine TrL.deleteM 5 rfl rfl rfl (.of rfl) (.of rfl) rfl rfl Try.underlying180 Try.underlying3 ?_
      refine TrL.nil ?_
      refine Fin.keepG (Γ' := [(0, _), (3, _), (4, _), (5, _)]) (.same rfl (.same rfl (.same rfl (.same rfl .nil)))) ?_
      refine Fin.next ?_
      refine Tr.seq ?_
      refine Tr.region ?_
      refine TrL.stepS 34 (.plain rfl (.move rfl (.of rfl))) rfl rfl ?_
      refine TrL.stepS 35 (.plain rfl (.nilCheckP rfl (.of rfl))) rfl rfl ?_
      refine TrL.stepS 36 (.plain rfl (.fieldP rfl (.of rfl) T.fl183_0)) rfl rfl ?_
      refine TrL.stepS 37 (.plain rfl (.loadR 3 rfl (.of rfl) rfl rfl rfl T.sc181)) rfl rfl ?_
      refine TrL.stepS 38 (.plain rfl (.move rfl (.of rfl))) rfl rfl ?_
      refine TrL.stepS 39 (.plain rfl (.indexN 4 (fr es) rfl (.of rfl) (.of rfl) rfl Own.view rfl Try.underlying181 T.sz185 (by omega) (he1))) rfl rfl ?_
      refine TrL.stepS 6 (.plain rfl (.assign rfl (.of rfl))) rfl rfl ?_
      refine TrL.nil ?_
      refine Fin.keepG (Γ' := [(3, _), (4, _), (5, _), (6, _)]) (.same rfl (.same rfl (.same rfl (.same rfl .nil)))) ?_
      refine Fin.next ?_
      refine Tr.seq ?_
      refine Tr.region ?_
      refine TrL.stepS 40 (.plain rfl (.move rfl (.of rfl))) rfl rfl ?_
      refine TrL.stepS 41 (.plain rfl (.nilCheckW 4 rfl (.of rfl) rfl Own.view rfl (L.hz_pos (he1)))) rfl rfl ?_
      refine TrL.stepS 42 (.plain rfl (.fieldW 4 rfl (.of rfl) rfl Own.view rfl (L.hz_pos (he1)) T.fl185_1)) rfl rfl ?_
      refine TrL.stepS 43 (.plain rfl (.loadW 4 (fr es) 4 rfl (.of rfl) rfl Own.view rfl (he1) rfl T.sc3)) rfl rfl ?_
      refine TrL.stepS 44 (.plain rfl (.addI L.bd_i64 rfl (.of rfl) (.of rfl) (by omega) (by omega))) rfl rfl ?_
      refine TrL.stepS 45 (.plain rfl (.nilCheckW 4 rfl (.of rfl) rfl Own.view rfl (L.hz_pos (he1)))) rfl rfl ?_
      refine TrL.stepS 46 (.plain rfl (.fieldW 4 rfl (.of rfl) rfl Own.view rfl (L.hz_pos (he1)) T.fl185_1)) rfl rfl ?_
      refine TrL.storeO 4 (fr es) 4 (z' := (e1.1, e1.2.1 + 1, e1.2.2)) rfl rfl rfl (.of rfl) (.of rfl) (L.hR1 (L.h1is rfl rfl)) rfl rfl (he1) rfl rfl T.sz3 ?_
      refine TrL.nil ?_
      refine Fin.keepG (Γ' := [(3, _), (4, _), (5, _), (6, _)]) (.same rfl (.same rfl (.same rfl (.same rfl .nil)))) ?_
      refine Fin.next ?_
      refine Tr.seq ?_
      refine Tr.region ?_
      refine TrL.stepS 47 (.plain rfl (.move rfl (.of rfl))) rfl rfl ?_
      refine TrL.stepS 48 (.plain rfl (.loadRN 20 (k := 4) rfl (.of rfl) rfl rfl rfl T.ag81 rfl)) rfl rfl ?_
      refine TrL.stepS 49 (.plain rfl (.callR [2] rfl (F119b x hx u) (.cons (.of rfl) .nil) (.same rfl .nil) rfl)) rfl rfl ?_
      refine TrL.stepS 50 (.plain rfl (.nilCheckW 4 rfl (.of rfl) rfl Own.view rfl (L.hz_pos (List.getElem?_set_self (getL_len he1))))) rfl rfl ?_
      refine TrL.stepS 51 (.plain rfl (.fieldW 4 rfl (.of rfl) rfl Own.view rfl (L.hz_pos (List.getElem?_set_self (getL_len he1))) T.fl185_0)) rfl rfl ?_
      refine TrL.storeO 4 (fr es) 0 (z' := (x, e1.2.1 + 1, true)) rfl rfl rfl (.of rfl) (.of rfl) (L.hRagg (L.all1_cons (L.h1is rfl rfl) (L.all1_cons L.h1lst (L.all1_cons L.h1lst (L.all1_cons L.h1lst L.all1_nil))))) rfl rfl (List.getElem?_set_self (getL_len he1)) rfl rfl T.sz81 ?_
      refine TrL.nil ?_
      refine Fin.keepG (Γ' := [(4, _), (5, _), (6, _)]) (.same rfl (.same rfl (.same rfl .nil))) ?_
      refine Fin.next ?_
      refine Tr.seq ?_
      refine Tr.region ?_
      refine TrL.stepS 52 (.plain rfl (.move rfl (.of rfl))) rfl rfl ?_
      refine TrL.stepS 53 (.plain rfl (.move rfl (.of rfl))) rfl rfl ?_
      refine TrL.stepS 54 (.plain rfl (.nilCheckW 4 rfl (.of rfl) rfl Own.view rfl (L.hz_pos (List.getElem?_set_self (by rw [List.length_set]; exact getL_len he1))))) rfl rfl ?_
      refine TrL.stepS 55 (.plain rfl (.fieldW 4 rfl (.of rfl) rfl Own.view rfl (L.hz_pos (List.getElem?_set_self (by rw [List.length_set]; exact getL_len he1))) T.fl185_1)) rfl rfl ?_
      refine TrL.stepS 56 (.plain rfl (.loadW 4 (fr es) 4 rfl (.of rfl) rfl Own.view rfl (List.getElem?_set_self (by rw [List.length_set]; exact getL_len he1)) rfl T.sc3)) rfl rfl ?_
      refine TrL.stepS 57 (.plain rfl (.build rfl (.cons (.of rfl) (.cons (.of rfl) .nil)) (T.Y5bd75_0_1 _ _))) rfl rfl ?_
      refine TrL.storeW 21 (vs := [_, _]) rfl rfl rfl (.of rfl) (.of rfl) rfl rfl T.sz75 rfl rfl ?_
      refine TrL.nil ?_
      refine Fin.keepG (Γ' := [(4, _)]) (.same rfl .nil) ?_
      refine Fin.next ?_
      refine Tr.ret ?_
      refine Fin.retGI 3 rfl (v1) [3, 4, 5] (rs := [_]) rfl (.cons (.cellB 21 (k := 2) (ds := [_, _]) rfl rfl rfl rfl T.ag75 rfl) .nil) (.cons (L.iv ?_) .nil) rfl (.same rfl (.cons rfl (fun F L w h => by rw [List.set_set] at h; unfold makeE; rw [hmg]; exact h) (.same rfl .nil))) rfl
      · rw [hmg]

/- (*tidepool/arena.Arena).Free -/
set_option maxRecDepth 100000 in
theorem F45 (b : Nat) (v : Value) (mr : Nat) (m : List (Int × Unit)) (es : List En) (hF : FreeM m es) (hok : okEs es) (hl : es.length ≤ 1000) (hs : List (Int × Int)) (hhl : hs.length ≤ 1000) : FnG Try.prog 45 [is (.pointer (some ⟨b, 0, none⟩)), Lst handR hs] [BlkR b [is v, is (.map (some mr))] 183] [Own placeR 185 v es, MapR (intK .i64) unitR mr m] (γ := Unit) (fun _ => is (.int .i64 (if (freeOk es hs = true) then 0 else 110))) (fun _ => [Own placeR 185 v (if (freeOk es hs = true) then freeE es hs else es), MapR (intK .i64) unitR mr (if (freeOk es hs = true) then freeMs m hs else m)]) := by
  refine FnG.mk' Try.func45 T.nm45 rfl (N := 62) rfl rfl (t := 3) rfl fun B => ?_
  refine Tr.seq ?_
  refine Tr.region ?_
  refine TrL.stepS 4 (.plain rfl (.assign rfl (.of rfl))) rfl rfl ?_
  refine TrL.nil ?_
  refine Fin.keepG (Γ' := [(0, _), (1, _)]) (.same rfl (.same rfl .nil)) ?_
  refine Fin.next ?_
  refine Tr.seq ?_
  refine Tr.seq ?_
  refine Tr.region ?_
  refine TrL.stepS 9 (.plain rfl (.move rfl (.of rfl))) rfl rfl ?_
  refine TrL.stepS 10 (.plain rfl (.eqlPN rfl (.of rfl) (.of rfl) Try.underlying72)) rfl rfl ?_
  refine TrL.nil ?_
  refine Fin.keepG (Γ' := [(0, _), (1, _), (10, _)]) (.same rfl (.same rfl (.same rfl .nil))) ?_
  refine Fin.next ?_
  refine Tr.cond rfl (fun hb0 => ?_) (fun hb0 => ?_)
  · try simp only [decide_eq_true_eq, decide_eq_false_iff_not, beq_iff_eq, beq_eq_false_iff_ne, bne_iff_ne, bne_eq_false_iff_eq, Bool.and_eq_true, Bool.and_eq_false_iff, Bool.or_eq_true, Bool.or_eq_false_iff, Bool.not_eq_true', Bool.not_eq_false', gt_iff_lt, ge_iff_le, Int.not_lt, Int.not_le, ne_eq, Int.natCast_nonneg, true_and, and_true, Decidable.not_not, not_true_eq_false, not_false_eq_true] at hb0
    cases hb0
  · try simp only [decide_eq_true_eq, decide_eq_false_iff_not, beq_iff_eq, beq_eq_false_iff_ne, bne_iff_ne, bne_eq_false_iff_eq, Bool.and_eq_true, Bool.and_eq_false_iff, Bool.or_eq_true, Bool.or_eq_false_iff, Bool.not_eq_true', Bool.not_eq_false', gt_iff_lt, ge_iff_le, Int.not_lt, Int.not_le, ne_eq, Int.natCast_nonneg, true_and, and_true, Decidable.not_not, not_true_eq_false, not_false_eq_true] at hb0
    refine Tr.skip ?_
    refine Fin.next ?_
    refine Tr.seq ?_
    refine Tr.seq ?_
    refine Tr.region ?_
    refine TrL.stepS 11 (.plain rfl (.move rfl (.of rfl))) rfl rfl ?_
    refine TrL.stepS 12 (.plain rfl (.len rfl (.of rfl) Try.underlying78)) rfl rfl ?_
    refine TrL.stepS 13 (.plain rfl (.move rfl (.of rfl))) rfl rfl ?_
    refine TrL.nil ?_
    refine Fin.keepG (Γ' := [(0, _), (1, _), (11, _), (12, _), (13, _)]) (.same rfl (.same rfl (.same rfl (.same rfl (.same rfl .nil))))) ?_
    refine Fin.next ?_
    refine Tr.block ?_
    refine Tr.loopK (γ := Nat) (Γk := [(0, _), (1, _), (11, _), (12, _)]) (Mk := [(2, _), (3, _), (4, _)]) (.same rfl (.same rfl (.same rfl (.same rfl .nil)))) (.same rfl (.same rfl (.same rfl .nil))) (fun k => k ≤ hs.length ∧ freeOk es (hs.take k) = true) (fun k => fun r => r) (fun k => fun r => (13, is (.int .i64 k)) :: r) (fun k => hs.length - k) (0) ?h0_0 ?hM_0 ?hG_0 ?hl_0
    case h0_0 => exact ⟨Nat.zero_le _, rfl⟩
    case hM_0 => exact (.same rfl (.same rfl (.same rfl .nil)))
    case hG_0 => exact (.eq rfl (by first | rfl | (congr 1; first | done | omega | (push_cast; omega) | (push_cast; rfl))) (.same rfl (.same rfl (.same rfl (.same rfl .nil)))))
    case hl_0 =>
      intro k hI
      refine Tr.seq ?_
      refine Tr.region ?_
      refine TrL.stepS 14 (.plain rfl (.lss rfl (.of rfl) (.of rfl))) rfl rfl ?_
      refine TrL.nil ?_
      refine Fin.next ?_
      refine Tr.seq ?_
      refine Tr.cond rfl (fun hb1 => ?_) (fun hb1 => ?_)
      · try simp only [decide_eq_true_eq, decide_eq_false_iff_not, beq_iff_eq, beq_eq_false_iff_ne, bne_iff_ne, bne_eq_false_iff_eq, Bool.and_eq_true, Bool.and_eq_false_iff, Bool.or_eq_true, Bool.or_eq_false_iff, Bool.not_eq_true', Bool.not_eq_false', gt_iff_lt, ge_iff_le, Int.not_lt, Int.not_le, ne_eq, Int.natCast_nonneg, true_and, and_true, Decidable.not_not, not_true_eq_false, not_false_eq_true] at hb1
        obtain ⟨x, hx⟩ := ex_get (xs := hs) (i := k) (by omega)
        have hsn := freeOk_snoc es (hs.take k) x
        rw [← take_snoc hx, hI.2] at hsn
        refine Tr.skip ?_
        refine Fin.next ?_
        refine Tr.seq ?_
        refine Tr.block ?_
        refine Tr.seq ?_
        refine Tr.region ?_
        refine TrL.stepS 15 (.plain rfl (.move rfl (.of rfl))) rfl rfl ?_
        refine TrL.stepS 16 (.plain rfl (.indexE rfl (.of rfl) (.of rfl) Try.underlying78 T.sz75 (by omega) hx)) rfl rfl ?_
        refine TrL.stepS 17 (.plain rfl (.load2 rfl (.of rfl) T.ag75)) rfl rfl ?_
        refine TrL.allocS 20 (zs := [.int .i64 0, .int .i64 0]) rfl rfl (by kernel_rfl) 6 rfl rfl rfl fun b20 => ?_
        refine TrL.stepS 5 (.plain rfl (.assign rfl (.of rfl))) rfl rfl ?_
        refine TrL.storeW 20 (vs := [_, _]) rfl rfl rfl (.of rfl) (.of rfl) rfl rfl T.sz75 rfl rfl ?_
        refine TrL.nil ?_
        refine Fin.keepG (Γ' := [(0, _), (1, _), (5, _), (6, _), (11, _), (12, _), (13, _)]) (.same rfl (.same rfl (.same rfl (.same rfl (.same rfl (.same rfl (.same rfl .nil))))))) ?_
        refine Fin.next ?_
        refine Tr.seq ?_
        refine Tr.regionK T.mixed (by kernel_rfl) (by kernel_rfl) ?_
        refine ChainK.consS 18 (.plain rfl (.move rfl (.of rfl))) rfl ?_
        refine ChainK.consS 19 (.plain rfl (.loadBN 20 (k := 2) (ds := [_, _]) rfl (.of rfl) rfl rfl rfl T.ag75 rfl)) rfl ?_
        refine ChainK.consS 20 (.plain rfl (.callR [2, 3, 4] rfl (F48 b v mr m es hF hok hl x.1 x.2) (.cons (.of rfl) (.cons (.of rfl) .nil)) (.same rfl (.same rfl (.same rfl .nil))) rfl)) rfl ?_
        refine ChainK.consS 21 (.plain rfl (.not rfl (.of rfl))) rfl ?_
        refine ChainK.consS 22 (.plain rfl (.move rfl (.of rfl))) rfl ?_
        refine ChainK.consS 23 (.guarded rfl rfl rfl fun hg => .move rfl (.of rfl)) rfl ?_
        refine ChainK.consS 24 (.guarded rfl rfl rfl fun hg => .move rfl (.of rfl)) rfl ?_
        refine ChainK.consS 25 (.guarded rfl rfl rfl fun hg => .sliceTo rfl (.cond rfl hg) (.cond rfl hg) Try.underlying78 T.sz75 (by first | omega | (simp at hg; omega) | (simp at hg hp; omega)) (by first | omega | (simp at hg; omega) | (simp at hg hp; omega))) rfl ?_
        refine ChainK.consS 26 (.guarded rfl rfl rfl fun hg => .loadBN 20 (k := 2) (ds := [_, _]) rfl (.of rfl) rfl rfl rfl T.ag75 rfl) rfl ?_
        refine ChainK.consS 27 (.guarded rfl rfl rfl fun hg => .call rfl (F120 (hs.take k) x.1 x.2 (by rw [List.length_take]; omega)) (.cons (.cond rfl hg) (.cons (.cond rfl hg) .nil))) rfl ?_
        refine ChainK.consS 28 (.plain rfl (.or rfl (.of rfl) (.cond rfl fun h => h))) rfl ?_
        refine ChainK.nil ?_
        refine Fin.keepG (Γ' := [(0, _), (1, _), (11, _), (12, _), (13, _), (28, _)]) (.same rfl (.same rfl (.same rfl (.same rfl (.same rfl (.same rfl .nil)))))) ?_
        refine Fin.next ?_
        refine Tr.cond rfl (fun hb2 => ?_) (fun hb2 => ?_)
        · have hr2 := hb2; try simp only [decide_eq_true_eq, decide_eq_false_iff_not, beq_iff_eq, beq_eq_false_iff_ne, bne_iff_ne, bne_eq_false_iff_eq, Bool.and_eq_true, Bool.and_eq_false_iff, Bool.or_eq_true, Bool.or_eq_false_iff, Bool.not_eq_true', Bool.not_eq_false', gt_iff_lt, ge_iff_le, Int.not_lt, Int.not_le, ne_eq, Int.natCast_nonneg, true_and, and_true, Decidable.not_not, not_true_eq_false, not_false_eq_true] at hb2
          have hno : ¬ freeOk es hs = true := fun h => by
            have h2 := freeOk_take (k + 1) h
            rw [hsn] at h2
            simp at h2 hb2
            rcases hb2 with h3 | h3
            · rw [h3] at h2; simp at h2
            · exact h2.2 h3
          rw [if_neg hno, if_neg hno, if_neg hno]
          refine Tr.seq ?_
          refine Tr.region ?_
          refine TrL.stepS 4 (.plain rfl (.assign rfl (.of rfl))) rfl rfl ?_
          refine TrL.nil ?_
          refine Fin.keepG (Γ' := [(4, _)]) (.same rfl .nil) ?_
          refine Fin.next ?_
          refine Tr.ret ?_
          refine Fin.blockRet ?_
          refine Fin.thenRet ?_
          refine Fin.thenRet ?_
          refine Fin.blockRet ?_
          refine Fin.thenRet ?_
          exact Fin.retGI 3 rfl (()) [3, 4] (rs := [_]) rfl (.cons (.tmp rfl) .nil) (.cons (L.iv rfl) .nil) rfl ((.same rfl (.same rfl .nil))) rfl
        · have hr2 := hb2; try simp only [decide_eq_true_eq, decide_eq_false_iff_not, beq_iff_eq, beq_eq_false_iff_ne, bne_iff_ne, bne_eq_false_iff_eq, Bool.and_eq_true, Bool.and_eq_false_iff, Bool.or_eq_true, Bool.or_eq_false_iff, Bool.not_eq_true', Bool.not_eq_false', gt_iff_lt, ge_iff_le, Int.not_lt, Int.not_le, ne_eq, Int.natCast_nonneg, true_and, and_true, Decidable.not_not, not_true_eq_false, not_false_eq_true] at hb2
          have hyes : freeOk es (hs.take (k + 1)) = true := by
            rw [hsn]
            simp at hb2 ⊢
            exact hb2
          refine Tr.skip ?_
          refine Fin.blockNormal ?_
          refine Fin.next ?_
          refine Tr.region ?_
          first | refine TrL.stepS 29 (.plain rfl (.addI L.bd_i64 rfl (.of rfl) (.of rfl) (by omega) (by omega))) rfl rfl ?_ | refine TrL.stepS 29 (.plain rfl (.add rfl (.of rfl) (.of rfl))) rfl rfl ?_
          refine TrL.stepS 13 (.plain rfl (.move rfl (.of rfl))) rfl rfl ?_
          refine TrL.nil ?_
          refine Fin.keepG (Γ' := [(0, _), (1, _), (11, _), (12, _), (13, _)]) (.same rfl (.same rfl (.same rfl (.same rfl (.same rfl .nil))))) ?_
          exact Fin.again (k + 1) (⟨by omega, hyes⟩) (by omega) (.same rfl (.same rfl (.same rfl .nil))) (.eq rfl (by first | rfl | (congr 1; first | done | omega | (push_cast; omega) | (push_cast; rfl))) (.same rfl (.same rfl (.same rfl (.same rfl .nil)))))
      · try simp only [decide_eq_true_eq, decide_eq_false_iff_not, beq_iff_eq, beq_eq_false_iff_ne, bne_iff_ne, bne_eq_false_iff_eq, Bool.and_eq_true, Bool.and_eq_false_iff, Bool.or_eq_true, Bool.or_eq_false_iff, Bool.not_eq_true', Bool.not_eq_false', gt_iff_lt, ge_iff_le, Int.not_lt, Int.not_le, ne_eq, Int.natCast_nonneg, true_and, and_true, Decidable.not_not, not_true_eq_false, not_false_eq_true] at hb1
        have hfo : freeOk es hs = true := by have := hI.2; rwa [List.take_of_length_le (by omega)] at this
        rw [if_pos hfo, if_pos hfo, if_pos hfo]
        refine Tr.exit ?_
        refine Fin.thenExit ?_
        refine Fin.thenExit ?_
        refine Fin.blockOut ?_
        refine Fin.next ?_
        refine Tr.seq ?_
        refine Tr.seq ?_
        refine Tr.region ?_
        refine TrL.stepS 30 (.plain rfl (.move rfl (.of rfl))) rfl rfl ?_
        refine TrL.stepS 31 (.plain rfl (.nilCheckP rfl (.of rfl))) rfl rfl ?_
        refine TrL.stepS 32 (.plain rfl (.fieldP rfl (.of rfl) T.fl183_1)) rfl rfl ?_
        refine TrL.stepS 33 (.plain rfl (.loadR 2 rfl (.of rfl) rfl rfl rfl T.sc180)) rfl rfl ?_
        refine TrL.stepS 34 (.plain rfl (.eqlMN rfl (.of rfl) (.of rfl) Try.underlying180)) rfl rfl ?_
        refine TrL.nil ?_
        refine Fin.keepG (Γ' := [(0, _), (1, _), (34, _)]) (.same rfl (.same rfl (.same rfl .nil))) ?_
        refine Fin.next ?_
        refine Tr.cond rfl (fun hb3 => ?_) (fun hb3 => ?_)
        · try simp only [decide_eq_true_eq, decide_eq_false_iff_not, beq_iff_eq, beq_eq_false_iff_ne, bne_iff_ne, bne_eq_false_iff_eq, Bool.and_eq_true, Bool.and_eq_false_iff, Bool.or_eq_true, Bool.or_eq_false_iff, Bool.not_eq_true', Bool.not_eq_false', gt_iff_lt, ge_iff_le, Int.not_lt, Int.not_le, ne_eq, Int.natCast_nonneg, true_and, and_true, Decidable.not_not, not_true_eq_false, not_false_eq_true] at hb3
          cases hb3
        · try simp only [decide_eq_true_eq, decide_eq_false_iff_not, beq_iff_eq, beq_eq_false_iff_ne, bne_iff_ne, bne_eq_false_iff_eq, Bool.and_eq_true, Bool.and_eq_false_iff, Bool.or_eq_true, Bool.or_eq_false_iff, Bool.not_eq_true', Bool.not_eq_false', gt_iff_lt, ge_iff_le, Int.not_lt, Int.not_le, ne_eq, Int.natCast_nonneg, true_and, and_true, Decidable.not_not, not_true_eq_false, not_false_eq_true] at hb3
          refine Tr.skip ?_
          refine Fin.next ?_
          refine Tr.seq ?_
          refine Tr.seq ?_
          refine Tr.region ?_
          refine TrL.stepS 39 (.plain rfl (.move rfl (.of rfl))) rfl rfl ?_
          refine TrL.stepS 40 (.plain rfl (.len rfl (.of rfl) Try.underlying78)) rfl rfl ?_
          refine TrL.stepS 41 (.plain rfl (.move rfl (.of rfl))) rfl rfl ?_
          refine TrL.nil ?_
          refine Fin.keepG (Γ' := [(0, _), (39, _), (40, _), (41, _)]) (.same rfl (.same rfl (.same rfl (.same rfl .nil)))) ?_
          refine Fin.next ?_
          refine Tr.block ?_
          refine Tr.loopK (γ := Nat) (Γk := [(0, _), (39, _), (40, _)]) (Mk := [(2, _)]) (.same rfl (.same rfl (.same rfl .nil))) (.same rfl .nil) (fun k => k ≤ hs.length) (fun k => fun r => (3, Own placeR 185 v (freeE es (hs.take k))) :: (4, MapR (intK .i64) unitR mr (freeMs m (hs.take k))) :: r) (fun k => fun r => (41, is (.int .i64 k)) :: r) (fun k => hs.length - k) (0) ?h0_1 ?hM_1 ?hG_1 ?hl_1
          case h0_1 => exact Nat.zero_le _
          case hM_1 => exact (.same rfl (.same rfl (.same rfl .nil)))
          case hG_1 => exact (.eq rfl (by first | rfl | (congr 1; first | done | omega | (push_cast; omega) | (push_cast; rfl))) (.same rfl (.same rfl (.same rfl .nil))))
          case hl_1 =>
            intro k hk
            refine Tr.seq ?_
            refine Tr.region ?_
            refine TrL.stepS 42 (.plain rfl (.lss rfl (.of rfl) (.of rfl))) rfl rfl ?_
            refine TrL.nil ?_
            refine Fin.next ?_
            refine Tr.seq ?_
            refine Tr.cond rfl (fun hb4 => ?_) (fun hb4 => ?_)
            · try simp only [decide_eq_true_eq, decide_eq_false_iff_not, beq_iff_eq, beq_eq_false_iff_ne, bne_iff_ne, bne_eq_false_iff_eq, Bool.and_eq_true, Bool.and_eq_false_iff, Bool.or_eq_true, Bool.or_eq_false_iff, Bool.not_eq_true', Bool.not_eq_false', gt_iff_lt, ge_iff_le, Int.not_lt, Int.not_le, ne_eq, Int.natCast_nonneg, true_and, and_true, Decidable.not_not, not_true_eq_false, not_false_eq_true] at hb4
              obtain ⟨x, hx⟩ := ex_get (xs := hs) (i := k) (by omega)
              have hhas := freeOk_has hfo (List.mem_of_getElem? hx)
              obtain ⟨hx0, e0, he0, _, _⟩ := hasE_get hhas
              obtain ⟨e1, he1⟩ := ex_get (xs := freeE es (hs.take k)) (i := x.1.toNat) (by rw [freeE_len]; exact getL_len he0)
              refine Tr.skip ?_
              refine Fin.next ?_
              refine Tr.seq ?_
              refine Tr.block ?_
              refine Tr.seq ?_
              refine Tr.region ?_
              refine TrL.stepS 43 (.plain rfl (.indexE rfl (.of rfl) (.of rfl) Try.underlying78 T.sz75 (by omega) hx)) rfl rfl ?_
              refine TrL.stepS 44 (.plain rfl (.load2 rfl (.of rfl) T.ag75)) rfl rfl ?_
              refine TrL.allocS 21 (zs := [.int .i64 0, .int .i64 0]) rfl rfl (by kernel_rfl) 8 rfl rfl rfl fun b21 => ?_
              refine TrL.storeW 21 (vs := [_, _]) rfl rfl rfl (.of rfl) (.of rfl) rfl rfl T.sz75 rfl rfl ?_
              refine TrL.nil ?_
              refine Fin.keepG (Γ' := [(0, _), (8, _), (39, _), (40, _), (41, _)]) (.same rfl (.same rfl (.same rfl (.same rfl (.same rfl .nil))))) ?_
              refine Fin.next ?_
              refine Tr.seq ?_
              refine Tr.regionW [([], [], []), ([2], [], []), ([2], [], []), ([2], [], []), ([21], [], []), ([21], [], []), ([], [], []), ([3], [], []), ([3], [], []), ([3], [3], [])] T.mixed (by kernel_rfl) (by kernel_rfl) (by kernel_rfl) (by kernel_rfl) ?_
              refine AChain.rd 45 rfl (fun σ => .plain rfl (.move rfl (.of rfl))) rfl rfl (fun _ _ => rfl) (L.Dep.const) ?_
              refine AChain.rd 46 rfl (fun σ => .plain rfl (.nilCheckP rfl (.of rfl))) rfl rfl (fun _ _ => rfl) (L.Dep.const) ?_
              refine AChain.rd 47 rfl (fun σ => .plain rfl (.fieldP rfl (.of rfl) T.fl183_0)) rfl rfl (fun _ _ => rfl) (L.Dep.const) ?_
              refine AChain.rd 48 rfl (fun σ => .plain rfl (.loadR 2 rfl (.of rfl) rfl rfl rfl T.sc181)) rfl rfl (fun _ _ => rfl) (L.Dep.const) ?_
              refine AChain.rd 49 rfl (fun σ => .plain rfl (.fieldP rfl (.of rfl) T.fl75_0)) rfl rfl (fun _ _ => rfl) (L.Dep.const) ?_
              refine AChain.rd 50 rfl (fun σ => .plain rfl (.loadB 21 rfl (.of rfl) rfl rfl rfl T.sc3)) rfl rfl (fun _ _ => rfl) (L.Dep.const) ?_
              refine AChain.rd 51 rfl (fun σ => .plain rfl (.buildF (Ss := [is (.bool false), Lst strR [], Lst handR [], Lst (intR .i64) []]) rfl .nil (fun w vs h => by rcases h with _ | _; exact ⟨_, T.Y5bd81 .., .cons (rfl) (.cons (L.lst_nil' rfl) (.cons (L.lst_nil' rfl) (.cons (L.lst_nil' rfl) (.nil))))⟩))) rfl rfl (fun _ _ => rfl) (L.Dep.const) ?_
              refine AChain.rd 52 rfl (fun σ => .plain rfl (.indexN 3 (x.1.toNat) rfl (.of rfl) (.of rfl) rfl Own.view rfl Try.underlying181 T.sz185 (by omega) (he1))) rfl rfl (fun _ _ => rfl) (L.Dep.const) ?_
              refine AChain.rd 53 rfl (fun σ => .plain rfl (.fieldW 3 rfl (.of rfl) rfl Own.view rfl (L.hz_pos (he1)) T.fl185_0)) rfl rfl (fun _ _ => rfl) (L.Dep.const) ?_
              refine AChain.wr1 3 rfl rfl rfl rfl (fun w0 κ0 σ => TrL.storeO 3 (x.1.toNat) 0 (z' := (zN, e1.2.1, false)) rfl rfl rfl (.of rfl) (.of rfl) (L.hRagg (L.all1_cons (L.h1is rfl rfl) (L.all1_cons L.h1lst (L.all1_cons L.h1lst (L.all1_cons L.h1lst L.all1_nil))))) rfl rfl (he1) rfl rfl T.sz81 (TrL.done0 (.free rfl .nil))) ?_
              refine AChain.nil ?_
              intro s14
              refine Fin.keepG (Γ' := [(0, _), (8, _), (39, _), (40, _), (41, _)]) (.same rfl (.same rfl (.same rfl (.same rfl (.same rfl .nil))))) ?_
              refine Fin.next ?_
              refine Tr.regionW [([], [], []), ([2], [], []), ([2], [], []), ([2], [], []), ([21], [], []), ([21], [], []), ([], [], []), ([4], [4], [])] T.mixed (by kernel_rfl) (by kernel_rfl) (by kernel_rfl) (by kernel_rfl) ?_
              refine AChain.rd 54 rfl (fun σ => .plain rfl (.move rfl (.of rfl))) rfl rfl (fun _ _ => rfl) (L.Dep.const) ?_
              refine AChain.rd 55 rfl (fun σ => .plain rfl (.nilCheckP rfl (.of rfl))) rfl rfl (fun _ _ => rfl) (L.Dep.const) ?_
              refine AChain.rd 56 rfl (fun σ => .plain rfl (.fieldP rfl (.of rfl) T.fl183_1)) rfl rfl (fun _ _ => rfl) (L.Dep.const) ?_
              refine AChain.rd 57 rfl (fun σ => .plain rfl (.loadR 2 rfl (.of rfl) rfl rfl rfl T.sc180)) rfl rfl (fun _ _ => rfl) (L.Dep.const) ?_
              refine AChain.rd 58 rfl (fun σ => .plain rfl (.fieldP rfl (.of rfl) T.fl75_0)) rfl rfl (fun _ _ => rfl) (L.Dep.const) ?_
              refine AChain.rd 59 rfl (fun σ => .plain rfl (.loadB 21 rfl (.of rfl) rfl rfl rfl T.sc3)) rfl rfl (fun _ _ => rfl) (L.Dep.const) ?_
              refine AChain.rd 60 rfl (fun σ => .plain rfl (.build rfl .nil (T.Y5bd189))) rfl rfl (fun _ _ => rfl) (L.Dep.const) ?_
              refine AChain.wr1 4 rfl rfl rfl rfl (fun w0 κ0 σ => TrL.updateM 4 (κr := intK .i64) (K := unitR) (a := x.1) (b := ()) rfl rfl rfl (.of rfl) (.of rfl) (.of rfl) rfl rfl Try.underlying180 Try.underlying3 (TrL.done0 (.free rfl .nil))) ?_
              refine AChain.nil ?_
              intro s15
              refine Fin.keepG (Γ' := [(0, _), (39, _), (40, _), (41, _)]) (.same rfl (.same rfl (.same rfl (.same rfl .nil)))) ?_
              refine Fin.blockNormal ?_
              refine Fin.next ?_
              refine Tr.region ?_
              first | refine TrL.stepS 61 (.plain rfl (.addI L.bd_i64 rfl (.of rfl) (.of rfl) (by omega) (by omega))) rfl rfl ?_ | refine TrL.stepS 61 (.plain rfl (.add rfl (.of rfl) (.of rfl))) rfl rfl ?_
              refine TrL.stepS 41 (.plain rfl (.move rfl (.of rfl))) rfl rfl ?_
              refine TrL.nil ?_
              refine Fin.keepG (Γ' := [(0, _), (39, _), (40, _), (41, _)]) (.same rfl (.same rfl (.same rfl (.same rfl .nil)))) ?_
              exact Fin.again (k + 1) (by omega) (by omega) (.cons rfl (fun F L w h => by rw [take_snoc hx, freeE_snoc]; unfold fstep; rw [getD_of he1]; exact h) (.cons rfl (fun F L w h => by rw [take_snoc hx, freeMs_snoc]; exact h) (.same rfl .nil))) (.eq rfl (by first | rfl | (congr 1; first | done | omega | (push_cast; omega) | (push_cast; rfl))) (.same rfl (.same rfl (.same rfl .nil))))
            · try simp only [decide_eq_true_eq, decide_eq_false_iff_not, beq_iff_eq, beq_eq_false_iff_ne, bne_iff_ne, bne_eq_false_iff_eq, Bool.and_eq_true, Bool.and_eq_false_iff, Bool.or_eq_true, Bool.or_eq_false_iff, Bool.not_eq_true', Bool.not_eq_false', gt_iff_lt, ge_iff_le, Int.not_lt, Int.not_le, ne_eq, Int.natCast_nonneg, true_and, and_true, Decidable.not_not, not_true_eq_false, not_false_eq_true] at hb4
              rw [List.take_of_length_le (show hs.length ≤ k by omega)]
              refine Tr.exit ?_
              refine Fin.thenExit ?_
              refine Fin.thenExit ?_
              refine Fin.blockOut ?_
              refine Fin.next ?_
              refine Tr.seq ?_
              refine Tr.region ?_
              refine TrL.stepS 4 (.plain rfl (.assign rfl (.of rfl))) rfl rfl ?_
              refine TrL.nil ?_
              refine Fin.keepG (Γ' := [(4, _)]) (.same rfl .nil) ?_
              refine Fin.next ?_
              refine Tr.ret ?_
              exact Fin.retGI 3 rfl (()) [3, 4] (rs := [_]) rfl (.cons (.tmp rfl) .nil) (.cons (L.iv rfl) .nil) rfl ((.same rfl (.same rfl .nil))) rfl

end Go.Proofs.Ytemkogoclljhpaa