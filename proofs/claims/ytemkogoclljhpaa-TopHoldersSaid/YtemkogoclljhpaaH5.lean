import Derived.Test.YtemkogoclljhpaaH4
namespace Go.Proofs.Ytemkogoclljhpaa
open Go Go.Proofs.Ytemkogoclljhpaa.L
set_option linter.unusedVariables false
set_option linter.unusedSimpArgs false

namespace T
theorem H5bd97_0_1_2_3_4 (c0 : Int) (c1 : Int) (c2 : Int) (c3 : Int) (c4 : Bool) : Try.prog.built 97 [(0, .int .u64 c0), (1, .int .i64 c1), (2, .int .u64 c2), (3, .int .u64 c3), (4, .bool c4)] = some #[.int .u64 c0, .int .i64 c1, .int .u64 c2, .int .u64 c3, .bool c4] := by kernel_rfl
end T


abbrev Hd := Int × Int × Int × Int × Int × Bool
def holdP : PRep Hd := ⟨6, fun h => [.int .u8 h.1, .int .u8 h.2.1, .int .u8 h.2.2.1, .int .u8 h.2.2.2.1, .int .u8 h.2.2.2.2.1, .bool h.2.2.2.2.2], fun _ => rfl, fun _ => rfl, by decide, (0, 0, 0, 0, 0, false)⟩
def holdR : Rep Hd := holdP.rep
theorem holdR_elem (a b c d e : Int) (f : Bool) : ∀ v w, is (.agg #[.int .u8 a, .int .u8 b, .int .u8 c, .int .u8 d, .int .u8 e, .bool f]) v w → ElemV holdR (a, b, c, d, e, f) v w := by
  rintro v w rfl
  exact .cons rfl (.cons rfl (.cons rfl (.cons rfl (.cons rfl (.cons rfl .nil)))))
def okH (h : Hd) : Prop := (0 ≤ h.1 ∧ h.1 ≤ 255) ∧ (0 ≤ h.2.1 ∧ h.2.1 ≤ 255) ∧ (0 ≤ h.2.2.1 ∧ h.2.2.1 ≤ 255) ∧ (0 ≤ h.2.2.2.1 ∧ h.2.2.2.1 ≤ 255) ∧ (0 ≤ h.2.2.2.2.1 ∧ h.2.2.2.2.1 ≤ 255)
def curH (h : Hd) : Bool := h.2.2.2.2.2 || (h.1 % 7 == 4)
def stepH (most : Int) (s : List Ls × Int) (h : Hd) : List Ls × Int :=
  if h.1 % 7 = 0 then (if (s.1.length : Int) < max most 0 then (s.1 ++ [(s.2 + 1, h.2.1 % 4, h.2.2.2.1 % 16, h.2.2.2.2.1 % 16, h.2.2.2.2.2)], s.2 + 1) else s)
  else if h.1 % 7 = 1 then s
  else if h.1 % 7 = 2 then (renewR (hasP (h.2.2.1 % 12) (h.2.1 % 4) h.2.2.2.2.2) s.1 (h.2.2.2.2.1 % 16), s.2)
  else if h.1 % 7 = 3 then (s.1.eraseIdx (ix (hasP (h.2.2.1 % 12) (h.2.1 % 4) h.2.2.2.2.2) s.1), s.2)
  else if h.1 % 7 = 4 then (moveR (hasP (h.2.2.1 % 12) (h.2.1 % 4) true) s.1 (h.2.2.2.1 % 16), s.2)
  else if h.1 % 7 = 5 then (s.1.filter fun x => !(fun x : Ls => decide (x.2.2.2.1 ≤ h.2.2.2.1 % 16)) x, s.2)
  else (s.1.filter fun x => !(fun x : Ls => x.2.1 == h.2.1 % 4) x, s.2)
def runH (most : Int) (l : List Hd) : List Ls × Int := l.foldl (stepH most) ([], 0)
theorem runH_snoc (most : Int) (l : List Hd) (h : Hd) : runH most (l ++ [h]) = stepH most (runH most l) h := by simp [runH]
structure InvH (rows : List Ls) (g : Int) (k : Nat) : Prop where
  pw : (rows.map (·.1)).Pairwise (· < ·)
  bd : ∀ i ∈ rows.map (·.1), 1 ≤ i ∧ i ≤ g
  g0 : 0 ≤ g
  gk : g ≤ k
  len : rows.length ≤ k
theorem set_ids {rows : List Ls} {i : Nat} {f : Ls → Ls} (hf : ∀ x, (f x).1 = x.1) : (rows.set i (f (rows.getD i zL))).map (·.1) = rows.map (·.1) := by
  apply List.ext_getElem?
  intro j
  rw [List.map_set, List.getElem?_set]
  split
  · rename_i hij
    subst hij
    rw [List.length_map, List.getElem?_map]
    split
    · rename_i hl
      rw [hf, List.getElem?_eq_getElem hl, List.getD_eq_getElem?_getD, List.getElem?_eq_getElem hl]; rfl
    · rename_i hl; rw [List.getElem?_eq_none (by omega)]; rfl
  · rfl
theorem InvH.sub {rows rows' : List Ls} {g : Int} {k : Nat} (h : InvH rows g k) (hs : rows'.Sublist rows) : InvH rows' g (k + 1) :=
  ⟨h.pw.sublist (hs.map _), fun i hi => h.bd i ((hs.map _).subset hi), h.g0, by have := h.gk; omega, by have := h.len; have := hs.length_le; omega⟩
theorem InvH.ids {rows rows' : List Ls} {g : Int} {k : Nat} (h : InvH rows g k) (hs : rows'.map (·.1) = rows.map (·.1)) : InvH rows' g (k + 1) := by
  have hl := congrArg List.length hs
  rw [List.length_map, List.length_map] at hl
  exact ⟨by rw [hs]; exact h.pw, by rw [hs]; exact h.bd, h.g0, by have := h.gk; omega, by have := h.len; omega⟩
theorem InvH.step {most : Int} {rows : List Ls} {g : Int} {k : Nat} {h : Hd} (i : InvH rows g k) {r2 : List Ls} {g2 : Int} (hs : stepH most (rows, g) h = (r2, g2)) : InvH r2 g2 (k + 1) := by
  unfold stepH at hs
  split at hs
  · split at hs
    · obtain ⟨rfl, rfl⟩ := Prod.mk.inj hs
      refine ⟨?_, ?_, by have := i.g0; omega, by have := i.gk; push_cast; omega, by have := i.len; simp; omega⟩
      · rw [List.map_append, List.pairwise_append]
        refine ⟨i.pw, by simp, fun a ha b hb => ?_⟩
        have := i.bd a ha
        simp at hb
        omega
      · intro j hj
        rw [List.map_append, List.mem_append] at hj
        rcases hj with hj | hj
        · have := i.bd j hj; omega
        · simp at hj; have := i.g0; omega
    · obtain ⟨rfl, rfl⟩ := Prod.mk.inj hs; exact i.sub (List.Sublist.refl _)
  · split at hs
    · obtain ⟨rfl, rfl⟩ := Prod.mk.inj hs; exact i.sub (List.Sublist.refl _)
    · split at hs
      · obtain ⟨rfl, rfl⟩ := Prod.mk.inj hs; exact i.ids (set_ids (f := fun x => setU x _) fun _ => rfl)
      · split at hs
        · obtain ⟨rfl, rfl⟩ := Prod.mk.inj hs; exact i.sub (List.eraseIdx_sublist _ _)
        · split at hs
          · obtain ⟨rfl, rfl⟩ := Prod.mk.inj hs
            unfold moveR
            split
            · exact i.ids (set_ids (f := fun x => setE x _) fun _ => rfl)
            · exact i.sub (List.Sublist.refl _)
          · split at hs <;> obtain ⟨rfl, rfl⟩ := Prod.mk.inj hs <;> exact i.sub List.filter_sublist
def atI (p : Ls → Bool) (xs : List Ls) : Int := if ix p xs < xs.length then (ix p xs : Int) else -1
theorem atI_pos {p : Ls → Bool} {xs : List Ls} : 0 ≤ atI p xs ↔ ix p xs < xs.length := by unfold atI; split <;> omega
theorem atI_here {p : Ls → Bool} {xs : List Ls} (h : ix p xs < xs.length) : atI p xs = (ix p xs : Int) := by unfold atI; rw [if_pos h]
theorem uniq {rows : List Ls} (hp : (rows.map (·.1)).Pairwise (· < ·)) {i j : Nat} {x y : Ls} (hx : rows[i]? = some x) (hy : rows[j]? = some y) (h : x.1 = y.1) : i = j := by
  have hi := getL_len hx
  have hj := getL_len hy
  have ex : (rows.map (·.1))[i]? = some x.1 := by rw [List.getElem?_map, hx]; rfl
  have ey : (rows.map (·.1))[j]? = some y.1 := by rw [List.getElem?_map, hy]; rfl
  have hi' : i < (rows.map (·.1)).length := by simpa using hi
  have hj' : j < (rows.map (·.1)).length := by simpa using hj
  rw [List.getElem?_eq_getElem hi'] at ex
  rw [List.getElem?_eq_getElem hj'] at ey
  simp only [Option.some.injEq] at ex ey
  rcases Nat.lt_trichotomy i j with h1 | h1 | h1
  · have := List.pairwise_iff_getElem.1 hp i j hi' hj' h1; omega
  · exact h1
  · have := List.pairwise_iff_getElem.1 hp j i hj' hi' h1; omega
theorem hasP_id {a b : Int} {c : Bool} {x : Ls} (h : hasP a b c x = true) : x.1 = a := by simp [hasP] at h; exact h.1.1
theorem atI_step {rows : List Ls} (hp : (rows.map (·.1)).Pairwise (· < ·)) {a b : Int} {c : Bool} {j : Nat} {y : Ls} (hy : rows[j]? = some y) : atI (hasP a b c) (rows.take (j + 1)) = if hasP a b c y = true then (j : Int) else atI (hasP a b c) (rows.take j) := by
  have hj := getL_len hy
  have hl : (rows.take j).length = j := by rw [List.length_take]; omega
  rw [take_snoc hy]
  split
  · rename_i h
    have hn : ∀ z ∈ rows.take j, hasP a b c z = false := by
      intro z hz
      obtain ⟨i, hi, rfl⟩ := List.mem_take_iff_getElem.1 hz
      cases hq : hasP a b c rows[i] with
      | false => rfl
      | true =>
        have := uniq hp (List.getElem?_eq_getElem (show i < rows.length by omega)) hy (by rw [hasP_id hq, hasP_id h])
        omega
    have e : ix (hasP a b c) (rows.take j ++ [y]) = j := ix_here (k := j) (x := y) (by rw [List.getElem?_append_right (by omega), hl]; simp) h (by
      rw [List.take_append_of_le_length (by omega), List.take_of_length_le (by omega)]; exact hn)
    unfold atI
    rw [e, if_pos (by simp; omega)]
  · rename_i h
    have h' : hasP a b c y = false := by simpa using h
    unfold atI ix
    rw [List.findIdx_append]
    by_cases hf : (rows.take j).findIdx (hasP a b c) < (rows.take j).length
    · rw [if_pos hf]
      have : ¬ ((rows.take j).findIdx (hasP a b c) = (rows.take j).length) := by omega
      simp only [List.length_append]
      split <;> simp_all <;> omega
    · have hle := List.findIdx_le_length (p := hasP a b c) (xs := rows.take j)
      have hn := List.findIdx_eq_length.1 (show (rows.take j).findIdx (hasP a b c) = (rows.take j).length by omega)
      have e : (rows.take j ++ [y]).findIdx (hasP a b c) = (rows.take j ++ [y]).length := List.findIdx_eq_length.2 (by
        intro z hz
        rw [List.mem_append] at hz
        rcases hz with hz | hz
        · exact hn z hz
        · simp only [List.mem_singleton] at hz; subst hz; exact h')
      rw [← List.findIdx_append, e, if_neg (by omega), if_neg hf]
theorem errF_not {p : Ls → Bool} {rows : List Ls} {cur : Bool} (h : ¬ ix p rows < rows.length) : errF p rows cur = if cur = true then 260 else 220 := by unfold errF; rw [if_neg h]
theorem renewR_not {p : Ls → Bool} {rows : List Ls} {u : Int} (h : ¬ ix p rows < rows.length) : renewR p rows u = rows := by unfold renewR; rw [List.set_eq_of_length_le (by omega)]
theorem renewV_not {p : Ls → Bool} {rows : List Ls} {u : Int} (h : ¬ ix p rows < rows.length) : renewV p rows u = zL := by unfold renewV; rw [if_neg h]
theorem moveE_not {p : Ls → Bool} {rows : List Ls} {u : Int} (h : ¬ ix p rows < rows.length) : moveE p rows u = 260 := by unfold moveE; rw [if_neg h]
theorem filter_id {rows : List Ls} (hp : (rows.map (·.1)).Pairwise (· < ·)) {a b : Int} {c : Bool} (h : ix (hasP a b c) rows < rows.length) : (rows.filter fun x => !(fun x : Ls => x.1 == a) x) = rows.eraseIdx (ix (hasP a b c) rows) := by
  obtain ⟨x, hx, hpx⟩ := ix_get h
  obtain ⟨i, hi⟩ : ∃ i, i = ix (hasP a b c) rows := ⟨_, rfl⟩
  rw [← hi] at hx h ⊢
  rw [List.eraseIdx_eq_take_drop_succ]
  have hsplit : rows = rows.take i ++ x :: rows.drop (i + 1) := by rw [← drop_snoc hx, List.take_append_drop]
  have hxa := hasP_id hpx
  conv => lhs; rw [hsplit]
  rw [List.filter_append, List.filter_cons]
  have h1 : (rows.take i).filter (fun x => !(fun x : Ls => x.1 == a) x) = rows.take i := by
    rw [List.filter_eq_self]
    intro y hy
    obtain ⟨j, hj, rfl⟩ := List.mem_take_iff_getElem.1 hy
    have : ¬ (rows[j]'(by omega)).1 = a := fun e => by
      have := uniq hp (List.getElem?_eq_getElem (show j < rows.length by omega)) hx (by rw [e, hxa]); omega
    simpa using this
  have h2 : (rows.drop (i + 1)).filter (fun x => !(fun x : Ls => x.1 == a) x) = rows.drop (i + 1) := by
    rw [List.filter_eq_self]
    intro y hy
    obtain ⟨j, hj⟩ := List.mem_iff_getElem?.1 hy
    rw [List.getElem?_drop] at hj
    have : ¬ y.1 = a := fun e => by
      have := uniq hp hj hx (by rw [e, hxa]); omega
    simpa using this
  rw [h1, h2]; simp [hxa]

/- tidepool/tidepooltop.held34 -/
set_option maxRecDepth 100000 in
theorem F19 (most : Int) (hz : List Hd) (hl : hz.length ≤ 60) (hh0 : ∀ h ∈ hz, okH h) (hmost : -1000 ≤ most ∧ most ≤ 1000) : FnP Try.prog 19 [is (.int .i64 most), Lst holdR hz] (Tup [is (.int .i64 (runH most hz).2), is (.bool true)]) := by
  refine FnP.mk' Try.func19 T.nm19 rfl (N := 316) rfl rfl fun B hB hκ => ?_
  refine Tr.seq ?_
  refine Tr.region ?_
  refine TrL.stepS 4 (.plain rfl (.assign rfl (.of rfl))) rfl rfl ?_
  refine TrL.stepS 5 (.plain rfl (.assign rfl (.of rfl))) rfl rfl ?_
  refine TrL.nil ?_
  refine Fin.keepG (Γ' := [(0, _), (1, _)]) (.same rfl (.same rfl .nil)) ?_
  refine Fin.next ?_
  refine Tr.seq ?_
  refine Tr.region ?_
  refine TrL.stepS 32 (.plain rfl (.move rfl (.of rfl))) rfl rfl ?_
  refine TrL.callG [] [] [20, 21] rfl rfl 33 rfl rfl (F54 ..) (.cons (.of rfl) .nil) .nil rfl rfl (fun _ => rfl) fun b => ?_
  refine TrL.stepS 6 (.plain rfl (.assign rfl (.of rfl))) rfl rfl ?_
  refine TrL.nil ?_
  refine Fin.keepG (Γ' := [(0, _), (1, _), (6, _)]) (.same rfl (.same rfl (.same rfl .nil))) ?_
  refine Fin.next ?_
  refine Tr.seq ?_
  refine Tr.region ?_
  refine TrL.allocR 22 (zs := [.slice none 0 0]) rfl rfl (by kernel_rfl) 7 rfl rfl rfl fun b22 => ?_
  refine TrL.nil ?_
  refine Fin.next ?_
  refine Tr.seq ?_
  refine Tr.region ?_
  refine TrL.stepS 8 (.plain rfl (.assign rfl (.of rfl))) rfl rfl ?_
  refine TrL.nil ?_
  refine Fin.next ?_
  refine Tr.seq ?_
  refine Tr.own0 23 leaseR 97 rfl ?_
  refine Tr.region ?_
  refine TrL.stepS 34 (.plain rfl (.func0 rfl (.cons (.of rfl) .nil))) rfl rfl ?_
  refine TrL.stepS 9 (.plain rfl (.assign rfl (.of rfl))) rfl rfl ?_
  refine TrL.nil ?_
  refine Fin.keepG (Γ' := [(0, _), (1, _), (6, _), (7, _), (8, _), (9, _)]) (.same rfl (.same rfl (.same rfl (.same rfl (.same rfl (.same rfl .nil)))))) ?_
  refine Fin.next ?_
  refine Tr.seq ?_
  refine Tr.seq ?_
  refine Tr.region ?_
  refine TrL.stepS 35 (.plain rfl (.move rfl (.of rfl))) rfl rfl ?_
  refine TrL.stepS 36 (.plain rfl (.len rfl (.of rfl) Try.underlying43)) rfl rfl ?_
  refine TrL.stepS 37 (.plain rfl (.move rfl (.of rfl))) rfl rfl ?_
  refine TrL.nil ?_
  refine Fin.keepG (Γ' := [(0, _), (6, _), (7, _), (8, _), (9, _), (35, _), (36, _), (37, _)]) (.same rfl (.same rfl (.same rfl (.same rfl (.same rfl (.same rfl (.same rfl (.same rfl .nil)))))))) ?_
  refine Fin.next ?_
  refine Tr.block ?_
  refine Tr.loopK (γ := Nat × List Ls × Int × Value × Value) (Γk := [(0, _), (6, _), (7, _), (9, _), (35, _), (36, _)]) (Mk := []) (.same rfl (.same rfl (.same rfl (.same rfl (.same rfl (.same rfl .nil)))))) .nil (fun gp => gp.1 ≤ hz.length ∧ runH most (hz.take gp.1) = (gp.2.1, gp.2.2.1) ∧ InvH gp.2.1 gp.2.2.1 gp.1) (fun gp => fun r => (20, BlkR b [is gp.2.2.2.2, is (.int .i64 (max 0 most)), is (.int .u64 gp.2.2.1)] 197) :: (21, Own leaseR 97 gp.2.2.2.2 gp.2.1) :: (22, BlkR b22 [is gp.2.2.2.1] 103) :: (23, Own leaseR 97 gp.2.2.2.1 gp.2.1) :: r) (fun gp => fun r => (8, is (.int .i64 gp.2.2.1)) :: (37, is (.int .i64 gp.1)) :: r) (fun gp => hz.length - gp.1) ((0, [], 0, .slice none 0 0, .slice none 0 0)) ?h0_0 ?hM_0 ?hG_0 ?hl_0
  case h0_0 => exact ⟨Nat.zero_le _, rfl, ⟨by simp, by simp, Int.le_refl _, Int.le_refl _, Nat.le_refl _⟩⟩
  case hM_0 => exact (.same rfl (.same rfl (.same rfl (.same rfl .nil))))
  case hG_0 => exact (.eq rfl (by first | rfl | (congr 1; first | done | omega | (push_cast; omega) | (push_cast; rfl))) (.eq rfl (by first | rfl | (congr 1; first | done | omega | (push_cast; omega) | (push_cast; rfl))) (.same rfl (.same rfl (.same rfl (.same rfl (.same rfl (.same rfl .nil))))))))
  case hl_0 =>
    intro p hI
    obtain ⟨k, rows, g, vm, vi⟩ := p
    dsimp only at hI ⊢
    refine Tr.seq ?_
    refine Tr.region ?_
    refine TrL.stepS 38 (.plain rfl (.lss rfl (.of rfl) (.of rfl))) rfl rfl ?_
    refine TrL.nil ?_
    refine Fin.next ?_
    refine Tr.seq ?_
    refine Tr.cond rfl (fun hb0 => ?_) (fun hb0 => ?_)
    · try simp only [decide_eq_true_eq, decide_eq_false_iff_not, beq_iff_eq, beq_eq_false_iff_ne, bne_iff_ne, bne_eq_false_iff_eq, Bool.and_eq_true, Bool.and_eq_false_iff, Bool.or_eq_true, Bool.or_eq_false_iff, Bool.not_eq_true', Bool.not_eq_false', gt_iff_lt, ge_iff_le, Int.not_lt, Int.not_le, ne_eq, Int.natCast_nonneg, true_and, and_true, Decidable.not_not, not_true_eq_false, not_false_eq_true] at hb0
      obtain ⟨h, hx⟩ := ex_get (xs := hz) (i := k) (by omega)
      have hok := hh0 h (List.mem_of_getElem? hx)
      have hrn := hI.2.1
      have hinv := hI.2.2
      have hlen := hinv.len
      have hg0 := hinv.g0
      have hgk := hinv.gk
      obtain ⟨r2, g2, hst2⟩ : ∃ r2 g2, stepH most (rows, g) h = (r2, g2) := ⟨_, _, rfl⟩
      have hs := hst2
      have hinv2 := hinv.step hst2
      have hr2l := hinv2.len
      have hg2 := hinv2.gk
      have hg20 := hinv2.g0
      have hrn2 : runH most (hz.take (k + 1)) = (r2, g2) := by rw [take_snoc hx, runH_snoc, hrn, hst2]
      obtain ⟨pp, hpp⟩ : ∃ pp, pp = hasP (h.2.2.1 % 12) (h.2.1 % 4) (curH h) := ⟨_, rfl⟩
      refine Tr.skip ?_
      refine Fin.next ?_
      refine Tr.seq ?_
      refine Tr.block ?_
      refine Tr.seq ?_
      refine Tr.region ?_
      refine TrL.stepS 39 (.plain rfl (.indexE rfl (.of rfl) (.of rfl) Try.underlying43 T.sz106 (by omega) hx)) rfl rfl ?_
      refine TrL.stepS 40 (.plain rfl (.load6 rfl (.of rfl) T.ag106)) rfl rfl ?_
      refine TrL.allocS 24 (zs := [.int .u8 0, .int .u8 0, .int .u8 0, .int .u8 0, .int .u8 0, .bool false]) rfl rfl (by kernel_rfl) 11 rfl rfl rfl fun b24 => ?_
      refine TrL.storeW 24 (vs := [_, _, _, _, _, _]) rfl rfl rfl (.of rfl) (.of rfl) rfl rfl T.sz106 rfl rfl ?_
      refine TrL.nil ?_
      refine Fin.keepG (Γ' := [(0, _), (6, _), (7, _), (8, _), (9, _), (11, _), (35, _), (36, _), (37, _)]) (.same rfl (.same rfl (.same rfl (.same rfl (.same rfl (.same rfl (.same rfl (.same rfl (.same rfl .nil))))))))) ?_
      refine Fin.next ?_
      refine Tr.seq ?_
      refine Tr.regionW [([24], [], []), ([24], [], []), ([], [], []), ([], [], []), ([24], [], []), ([24], [], []), ([], [], []), ([], [], []), ([24], [], []), ([24], [], []), ([], [], []), ([], [], []), ([24], [], []), ([24], [], []), ([], [], []), ([], [], []), ([], [25], [12]), ([], [26], [13]), ([], [27], [14]), ([25], [25], [12]), ([26], [26], [13]), ([27], [27], [14]), ([], [], [])] T.mixed (by kernel_rfl) (by kernel_rfl) (by kernel_rfl) (by kernel_rfl) ?_
      refine AChain.rd 41 rfl (fun σ => .plain rfl (.fieldP rfl (.of rfl) T.fl106_1)) rfl rfl (fun _ _ => rfl) (L.Dep.const) ?_
      refine AChain.rd 42 rfl (fun σ => .plain rfl (.loadB 24 rfl (.of rfl) rfl rfl rfl T.sc5)) rfl rfl (fun _ _ => rfl) (L.Dep.const) ?_
      refine AChain.rd 43 rfl (fun σ => .plain rfl (OpM.eqI (n := h.2.1 % 4) (.rem rfl (.of rfl) (.of rfl) (by decide)) (Int.tmod_eq_emod_of_nonneg hok.2.1.1))) rfl rfl (fun _ _ => rfl) (L.Dep.const) ?_
      first | refine AChain.rd 44 rfl (fun σ => .plain rfl (.convI L.bd_i64 rfl (.of rfl) T.us5 Try.underlying3 (by omega) (by omega))) rfl rfl (fun _ _ => rfl) (L.Dep.const) ?_ | refine AChain.rd 44 rfl (fun σ => .plain rfl (.conv rfl (.of rfl) T.us5 Try.underlying3)) rfl rfl (fun _ _ => rfl) (L.Dep.const) ?_
      refine AChain.rd 45 rfl (fun σ => .plain rfl (.fieldP rfl (.of rfl) T.fl106_2)) rfl rfl (fun _ _ => rfl) (L.Dep.const) ?_
      refine AChain.rd 46 rfl (fun σ => .plain rfl (.loadB 24 rfl (.of rfl) rfl rfl rfl T.sc5)) rfl rfl (fun _ _ => rfl) (L.Dep.const) ?_
      refine AChain.rd 47 rfl (fun σ => .plain rfl (OpM.eqI (n := h.2.2.1 % 12) (.rem rfl (.of rfl) (.of rfl) (by decide)) (Int.tmod_eq_emod_of_nonneg hok.2.2.1.1))) rfl rfl (fun _ _ => rfl) (L.Dep.const) ?_
      first | refine AChain.rd 48 rfl (fun σ => .plain rfl (.convI L.bd_u64 rfl (.of rfl) T.us5 Try.underlying55 (by omega) (by omega))) rfl rfl (fun _ _ => rfl) (L.Dep.const) ?_ | refine AChain.rd 48 rfl (fun σ => .plain rfl (.conv rfl (.of rfl) T.us5 Try.underlying55)) rfl rfl (fun _ _ => rfl) (L.Dep.const) ?_
      refine AChain.rd 49 rfl (fun σ => .plain rfl (.fieldP rfl (.of rfl) T.fl106_3)) rfl rfl (fun _ _ => rfl) (L.Dep.const) ?_
      refine AChain.rd 50 rfl (fun σ => .plain rfl (.loadB 24 rfl (.of rfl) rfl rfl rfl T.sc5)) rfl rfl (fun _ _ => rfl) (L.Dep.const) ?_
      refine AChain.rd 51 rfl (fun σ => .plain rfl (OpM.eqI (n := h.2.2.2.1 % 16) (.rem rfl (.of rfl) (.of rfl) (by decide)) (Int.tmod_eq_emod_of_nonneg hok.2.2.2.1.1))) rfl rfl (fun _ _ => rfl) (L.Dep.const) ?_
      first | refine AChain.rd 52 rfl (fun σ => .plain rfl (.convI L.bd_u64 rfl (.of rfl) T.us5 Try.underlying55 (by omega) (by omega))) rfl rfl (fun _ _ => rfl) (L.Dep.const) ?_ | refine AChain.rd 52 rfl (fun σ => .plain rfl (.conv rfl (.of rfl) T.us5 Try.underlying55)) rfl rfl (fun _ _ => rfl) (L.Dep.const) ?_
      refine AChain.rd 53 rfl (fun σ => .plain rfl (.fieldP rfl (.of rfl) T.fl106_4)) rfl rfl (fun _ _ => rfl) (L.Dep.const) ?_
      refine AChain.rd 54 rfl (fun σ => .plain rfl (.loadB 24 rfl (.of rfl) rfl rfl rfl T.sc5)) rfl rfl (fun _ _ => rfl) (L.Dep.const) ?_
      refine AChain.rd 55 rfl (fun σ => .plain rfl (OpM.eqI (n := h.2.2.2.2.1 % 16) (.rem rfl (.of rfl) (.of rfl) (by decide)) (Int.tmod_eq_emod_of_nonneg hok.2.2.2.2.1))) rfl rfl (fun _ _ => rfl) (L.Dep.const) ?_
      first | refine AChain.rd 56 rfl (fun σ => .plain rfl (.convI L.bd_u64 rfl (.of rfl) T.us5 Try.underlying55 (by omega) (by omega))) rfl rfl (fun _ _ => rfl) (L.Dep.const) ?_ | refine AChain.rd 56 rfl (fun σ => .plain rfl (.conv rfl (.of rfl) T.us5 Try.underlying55)) rfl rfl (fun _ _ => rfl) (L.Dep.const) ?_
      refine AChain.allocD 25 12 (zs := [.int .i64 0]) rfl rfl rfl rfl rfl rfl (by kernel_rfl) (L.depS (by decide)) (L.depP (by decide)) ?_
      refine AChain.allocD 26 13 (zs := [.int .u64 0]) rfl rfl rfl rfl rfl rfl (by kernel_rfl) (L.depS (by decide)) (L.depP (by decide)) ?_
      refine AChain.allocD 27 14 (zs := [.int .u64 0]) rfl rfl rfl rfl rfl rfl (by kernel_rfl) (L.depS (by decide)) (L.depP (by decide)) ?_
      refine AChain.storeD1 25 12 rfl rfl rfl rfl rfl (fun σ _ => (.of rfl)) (fun σ _ => (.of rfl)) (L.h1is rfl rfl) (fun σ => rfl) T.sz3 rfl (L.depP (by decide)) ?_
      refine AChain.storeD1 26 13 rfl rfl rfl rfl rfl (fun σ _ => (.of rfl)) (fun σ _ => (.of rfl)) (L.h1is rfl rfl) (fun σ => rfl) T.sz55 rfl (L.depP (by decide)) ?_
      refine AChain.storeD1 27 14 rfl rfl rfl rfl rfl (fun σ _ => (.of rfl)) (fun σ _ => (.of rfl)) (L.h1is rfl rfl) (fun σ => rfl) T.sz55 rfl (L.depP (by decide)) ?_
      refine AChain.rd 15 rfl (fun σ => .plain rfl (.assign rfl (.of rfl))) rfl rfl (fun _ _ => rfl) (L.Dep.const) ?_
      refine AChain.nil ?_
      intro s8
      refine Fin.openPB (vs := [_]) 25 12 rfl rfl rfl fun b12 hb12_ => ?_
      refine Fin.openPB (vs := [_]) 26 13 rfl rfl rfl fun b13 hb13_ => ?_
      refine Fin.openPB (vs := [_]) 27 14 rfl rfl rfl fun b14 hb14_ => ?_
      refine Fin.keepG (Γ' := [(0, _), (6, _), (7, _), (8, _), (9, _), (11, _), (12, _), (13, _), (14, _), (15, _), (35, _), (36, _), (37, _)]) (.same rfl (.same rfl (.same rfl (.same rfl (.same rfl (.same rfl (.same rfl (.same rfl (.same rfl (.same rfl (.same rfl (.same rfl (.same rfl .nil))))))))))))) ?_
      refine Fin.next ?_
      refine Tr.seq ?_
      refine Tr.region ?_
      refine TrL.stepS 16 (.plain rfl (.assign rfl (.of rfl))) rfl rfl ?_
      refine TrL.stepS 17 (.plain rfl (.assign rfl (.of rfl))) rfl rfl ?_
      refine TrL.nil ?_
      refine Fin.next ?_
      refine Tr.seqJK (γ := Unit) (Γk := [(0, _), (6, _), (7, _), (8, _), (9, _), (11, _), (12, _), (13, _), (14, _), (15, _), (16, _), (35, _), (36, _), (37, _)]) (Mk := [(20, _), (21, _), (22, _), (23, _), (24, _), (25, _), (26, _), (27, _)]) (.same rfl (.same rfl (.same rfl (.same rfl (.same rfl (.same rfl (.same rfl (.same rfl (.same rfl (.same rfl (.same rfl (.same rfl (.same rfl (.same rfl .nil)))))))))))))) (.same rfl (.same rfl (.same rfl (.same rfl (.same rfl (.same rfl (.same rfl (.same rfl .nil)))))))) (fun _ => True) (fun _ => fun r => r) (fun _ => fun r => (17, is (.int .i64 (if curH h = true then 260 else 220))) :: r) ?jx12 ?jk12
      case jx12 =>
        refine Tr.seq ?_
        refine Tr.region ?_
        refine TrL.stepS 57 (.plain rfl (.fieldP rfl (.of rfl) T.fl106_5)) rfl rfl ?_
        refine TrL.stepS 58 (.plain rfl (.loadB 24 rfl (.of rfl) rfl rfl rfl T.sc4)) rfl rfl ?_
        refine TrL.stepS 59 (.plain rfl (.move rfl (.of rfl))) rfl rfl ?_
        refine TrL.stepS 60 (.guarded rfl rfl rfl fun hg => .fieldP rfl (.of rfl) T.fl106_0) rfl rfl ?_
        refine TrL.stepS 61 (.guarded rfl rfl rfl fun hg => .loadB 24 rfl (.cond rfl hg) rfl rfl rfl T.sc5) rfl rfl ?_
        refine TrL.stepS 62 (.guarded rfl rfl rfl fun hg => OpM.eqI (n := h.1 % 7) (.rem rfl (.cond rfl hg) (.of rfl) (by decide)) (Int.tmod_eq_emod_of_nonneg hok.1.1)) rfl rfl ?_
        refine TrL.stepS 63 (.guarded rfl rfl rfl fun hg => .eql rfl (.cond rfl hg) (.of rfl)) rfl rfl ?_
        refine TrL.stepS 64 (.plain rfl (.or rfl (.of rfl) (.cond rfl fun h => h))) rfl rfl ?_
        refine TrL.nil ?_
        refine Fin.keepG (Γ' := [(0, _), (6, _), (7, _), (8, _), (9, _), (11, _), (12, _), (13, _), (14, _), (15, _), (16, _), (17, _), (35, _), (36, _), (37, _), (64, _)]) (.same rfl (.same rfl (.same rfl (.same rfl (.same rfl (.same rfl (.same rfl (.same rfl (.same rfl (.same rfl (.same rfl (.same rfl (.same rfl (.same rfl (.same rfl (.same rfl .nil)))))))))))))))) ?_
        refine Fin.next ?_
        refine Tr.cond rfl (fun hb1 => ?_) (fun hb1 => ?_)
        · have hr1 := hb1; try simp only [decide_eq_true_eq, decide_eq_false_iff_not, beq_iff_eq, beq_eq_false_iff_ne, bne_iff_ne, bne_eq_false_iff_eq, Bool.and_eq_true, Bool.and_eq_false_iff, Bool.or_eq_true, Bool.or_eq_false_iff, Bool.not_eq_true', Bool.not_eq_false', gt_iff_lt, ge_iff_le, Int.not_lt, Int.not_le, ne_eq, Int.natCast_nonneg, true_and, and_true, Decidable.not_not, not_true_eq_false, not_false_eq_true] at hb1
          refine Tr.region ?_
          refine TrL.stepS 17 (.plain rfl (.assign rfl (.of rfl))) rfl rfl ?_
          refine TrL.nil ?_
          refine Fin.keepG (Γ' := [(0, _), (6, _), (7, _), (8, _), (9, _), (11, _), (12, _), (13, _), (14, _), (15, _), (16, _), (17, _), (35, _), (36, _), (37, _)]) (.same rfl (.same rfl (.same rfl (.same rfl (.same rfl (.same rfl (.same rfl (.same rfl (.same rfl (.same rfl (.same rfl (.same rfl (.same rfl (.same rfl (.same rfl .nil))))))))))))))) ?_
          exact Fin.reach (()) (trivial) (.same rfl (.same rfl (.same rfl (.same rfl (.same rfl (.same rfl (.same rfl (.same rfl .nil)))))))) (.eq rfl (by rw [if_pos (show curH h = true from hr1)]) (.same rfl (.same rfl (.same rfl (.same rfl (.same rfl (.same rfl (.same rfl (.same rfl (.same rfl (.same rfl (.same rfl (.same rfl (.same rfl (.same rfl .nil)))))))))))))))
        · have hr1 := hb1; try simp only [decide_eq_true_eq, decide_eq_false_iff_not, beq_iff_eq, beq_eq_false_iff_ne, bne_iff_ne, bne_eq_false_iff_eq, Bool.and_eq_true, Bool.and_eq_false_iff, Bool.or_eq_true, Bool.or_eq_false_iff, Bool.not_eq_true', Bool.not_eq_false', gt_iff_lt, ge_iff_le, Int.not_lt, Int.not_le, ne_eq, Int.natCast_nonneg, true_and, and_true, Decidable.not_not, not_true_eq_false, not_false_eq_true] at hb1
          refine Tr.skip ?_
          exact Fin.reach (()) (trivial) (.same rfl (.same rfl (.same rfl (.same rfl (.same rfl (.same rfl (.same rfl (.same rfl .nil)))))))) (.eq rfl (by rw [if_neg (by rw [show curH h = false from hr1]; simp)]) (.same rfl (.same rfl (.same rfl (.same rfl (.same rfl (.same rfl (.same rfl (.same rfl (.same rfl (.same rfl (.same rfl (.same rfl (.same rfl (.same rfl .nil)))))))))))))))
      case jk12 =>
        intro _ _
        refine Tr.seq ?_
        refine Tr.seq ?_
        refine Tr.region ?_
        refine TrL.stepS 65 (.plain rfl (.loadR 22 rfl (.of rfl) rfl rfl rfl T.sc103)) rfl rfl ?_
        refine TrL.stepS 66 (.plain rfl (.lenV 23 rfl (.of rfl) rfl Own.view rfl Try.underlying103)) rfl rfl ?_
        refine TrL.stepS 67 (.plain rfl (.move rfl (.of rfl))) rfl rfl ?_
        refine TrL.nil ?_
        refine Fin.next ?_
        refine Tr.block ?_
        refine Tr.loopK (γ := Nat) (Γk := [(0, _), (6, _), (7, _), (8, _), (9, _), (11, _), (12, _), (13, _), (14, _), (15, _), (17, _), (35, _), (36, _), (37, _), (65, _), (66, _)]) (Mk := [(20, _), (21, _), (22, _), (23, _), (24, _), (25, _), (26, _), (27, _)]) (.same rfl (.same rfl (.same rfl (.same rfl (.same rfl (.same rfl (.same rfl (.same rfl (.same rfl (.same rfl (.same rfl (.same rfl (.same rfl (.same rfl (.same rfl (.same rfl .nil)))))))))))))))) (.same rfl (.same rfl (.same rfl (.same rfl (.same rfl (.same rfl (.same rfl (.same rfl .nil)))))))) (fun j => j ≤ rows.length) (fun j => fun r => r) (fun j => fun r => (16, is (.int .i64 (atI pp (rows.take j)))) :: (67, is (.int .i64 j)) :: r) (fun j => rows.length - j) (0) ?h0_1 ?hM_1 ?hG_1 ?hl_1
        case h0_1 => exact Nat.zero_le _
        case hM_1 => exact (.same rfl (.same rfl (.same rfl (.same rfl (.same rfl (.same rfl (.same rfl (.same rfl .nil))))))))
        case hG_1 => exact (.eq rfl (by rfl) (.eq rfl (by first | rfl | (congr 1; first | done | omega | (push_cast; omega) | (push_cast; rfl))) (.same rfl (.same rfl (.same rfl (.same rfl (.same rfl (.same rfl (.same rfl (.same rfl (.same rfl (.same rfl (.same rfl (.same rfl (.same rfl (.same rfl (.same rfl (.same rfl .nil))))))))))))))))))
        case hl_1 =>
          intro j hj
          refine Tr.seq ?_
          refine Tr.region ?_
          refine TrL.stepS 68 (.plain rfl (.lss rfl (.of rfl) (.of rfl))) rfl rfl ?_
          refine TrL.nil ?_
          refine Fin.next ?_
          refine Tr.seq ?_
          refine Tr.cond rfl (fun hb2 => ?_) (fun hb2 => ?_)
          · try simp only [decide_eq_true_eq, decide_eq_false_iff_not, beq_iff_eq, beq_eq_false_iff_ne, bne_iff_ne, bne_eq_false_iff_eq, Bool.and_eq_true, Bool.and_eq_false_iff, Bool.or_eq_true, Bool.or_eq_false_iff, Bool.not_eq_true', Bool.not_eq_false', gt_iff_lt, ge_iff_le, Int.not_lt, Int.not_le, ne_eq, Int.natCast_nonneg, true_and, and_true, Decidable.not_not, not_true_eq_false, not_false_eq_true] at hb2
            obtain ⟨y, hy⟩ := ex_get (xs := rows) (i := j) (by omega)
            have hst := atI_step hinv.pw (a := (h.2.2.1 % 12)) (b := (h.2.1 % 4)) (c := curH h) hy
            rw [← hpp] at hst
            have hq : pp y = ((y.1 == (h.2.2.1 % 12)) && (y.2.1 == (h.2.1 % 4)) && (y.2.2.2.2 == ((if curH h = true then (260 : Int) else 220) == 260))) := by
              rw [hpp, Bool.eq_iff_iff]; cases hc : curH h <;> simp [hasP]
            refine Tr.skip ?_
            refine Fin.next ?_
            refine Tr.seqJK (γ := Unit) (Γk := [(0, _), (6, _), (7, _), (8, _), (9, _), (11, _), (12, _), (13, _), (14, _), (15, _), (17, _), (35, _), (36, _), (37, _), (65, _), (66, _), (67, _)]) (Mk := [(20, _), (21, _), (22, _), (23, _), (24, _), (25, _), (26, _), (27, _)]) (.same rfl (.same rfl (.same rfl (.same rfl (.same rfl (.same rfl (.same rfl (.same rfl (.same rfl (.same rfl (.same rfl (.same rfl (.same rfl (.same rfl (.same rfl (.same rfl (.same rfl .nil))))))))))))))))) (.same rfl (.same rfl (.same rfl (.same rfl (.same rfl (.same rfl (.same rfl (.same rfl .nil)))))))) (fun _ => True) (fun _ => fun r => r) (fun _ => fun r => (16, is (.int .i64 (atI pp (rows.take (j + 1))))) :: r) ?jx17 ?jk17
            case jx17 =>
              refine Tr.block ?_
              refine Tr.seq ?_
              refine Tr.region ?_
              refine TrL.stepS 69 (.plain rfl (.move rfl (.of rfl))) rfl rfl ?_
              refine TrL.stepS 70 (.plain rfl (.indexN 23 (j) rfl (.of rfl) (.of rfl) rfl Own.view rfl Try.underlying103 T.sz97 (by omega) (hy))) rfl rfl ?_
              refine TrL.stepS 71 (.plain rfl (.loadWV 23 (j) 0 5 (ds := [_, _, _, _, _]) rfl (.of rfl) rfl Own.view rfl (hy) rfl rfl T.ag97)) rfl rfl ?_
              refine TrL.allocS 28 (zs := [.int .u64 0, .int .i64 0, .int .u64 0, .int .u64 0, .bool false]) rfl rfl (by kernel_rfl) 19 rfl rfl rfl fun b28 => ?_
              refine TrL.stepS 18 (.plain rfl (.assign rfl (.of rfl))) rfl rfl ?_
              refine TrL.storeW 28 (vs := [_, _, _, _, _]) rfl rfl rfl (.of rfl) (.of rfl) rfl rfl T.sz97 rfl rfl ?_
              refine TrL.nil ?_
              refine Fin.keepG (Γ' := [(0, _), (6, _), (7, _), (8, _), (9, _), (11, _), (12, _), (13, _), (14, _), (15, _), (16, _), (17, _), (18, _), (19, _), (35, _), (36, _), (37, _), (65, _), (66, _), (67, _)]) (.same rfl (.same rfl (.same rfl (.same rfl (.same rfl (.same rfl (.same rfl (.same rfl (.same rfl (.same rfl (.same rfl (.same rfl (.same rfl (.same rfl (.same rfl (.same rfl (.same rfl (.same rfl (.same rfl (.same rfl .nil)))))))))))))))))))) ?_
              refine Fin.next ?_
              refine Tr.seq ?_
              refine Tr.region ?_
              refine TrL.stepS 72 (.plain rfl (.fieldP rfl (.of rfl) T.fl97_0)) rfl rfl ?_
              refine TrL.stepS 73 (.plain rfl (.loadB 28 rfl (.of rfl) rfl rfl rfl T.sc55)) rfl rfl ?_
              refine TrL.stepS 74 (.plain rfl (.loadB 26 rfl (.of rfl) rfl rfl rfl T.sc55)) rfl rfl ?_
              refine TrL.stepS 75 (.plain rfl (.eql rfl (.of rfl) (.of rfl))) rfl rfl ?_
              refine TrL.stepS 76 (.plain rfl (.move rfl (.of rfl))) rfl rfl ?_
              refine TrL.stepS 77 (.guarded rfl rfl rfl fun hg => .fieldP rfl (.of rfl) T.fl97_1) rfl rfl ?_
              refine TrL.stepS 78 (.guarded rfl rfl rfl fun hg => .loadB 28 rfl (.cond rfl hg) rfl rfl rfl T.sc3) rfl rfl ?_
              refine TrL.stepS 79 (.guarded rfl rfl rfl fun hg => .loadB 25 rfl (.of rfl) rfl rfl rfl T.sc3) rfl rfl ?_
              refine TrL.stepS 80 (.guarded rfl rfl rfl fun hg => .eql rfl (.cond rfl hg) (.cond rfl hg)) rfl rfl ?_
              refine TrL.stepS 81 (.plain rfl (.and rfl (.of rfl) (.cond rfl fun h => h))) rfl rfl ?_
              refine TrL.stepS 82 (.plain rfl (.move rfl (.of rfl))) rfl rfl ?_
              refine TrL.stepS 83 (.guarded rfl rfl rfl fun hg => .fieldP rfl (.of rfl) T.fl97_4) rfl rfl ?_
              refine TrL.stepS 84 (.guarded rfl rfl rfl fun hg => .loadB 28 rfl (.cond rfl hg) rfl rfl rfl T.sc4) rfl rfl ?_
              refine TrL.stepS 85 (.guarded rfl rfl rfl fun hg => .move rfl (.of rfl)) rfl rfl ?_
              refine TrL.stepS 86 (.guarded rfl rfl rfl fun hg => .eql rfl (.cond rfl hg) (.of rfl)) rfl rfl ?_
              refine TrL.stepS 87 (.guarded rfl rfl rfl fun hg => .eqlB rfl (.cond rfl hg) (.cond rfl hg) Try.underlying4) rfl rfl ?_
              refine TrL.stepS 88 (.plain rfl (.and rfl (.of rfl) (.cond rfl fun h => h))) rfl rfl ?_
              refine TrL.nil ?_
              refine Fin.keepG (Γ' := [(0, _), (6, _), (7, _), (8, _), (9, _), (11, _), (12, _), (13, _), (14, _), (15, _), (16, _), (17, _), (18, _), (35, _), (36, _), (37, _), (65, _), (66, _), (67, _), (88, _)]) (.same rfl (.same rfl (.same rfl (.same rfl (.same rfl (.same rfl (.same rfl (.same rfl (.same rfl (.same rfl (.same rfl (.same rfl (.same rfl (.same rfl (.same rfl (.same rfl (.same rfl (.same rfl (.same rfl (.same rfl .nil)))))))))))))))))))) ?_
              refine Fin.next ?_
              refine Tr.cond rfl (fun hb3 => ?_) (fun hb3 => ?_)
              · have hr3 := hb3; try simp only [decide_eq_true_eq, decide_eq_false_iff_not, beq_iff_eq, beq_eq_false_iff_ne, bne_iff_ne, bne_eq_false_iff_eq, Bool.and_eq_true, Bool.and_eq_false_iff, Bool.or_eq_true, Bool.or_eq_false_iff, Bool.not_eq_true', Bool.not_eq_false', gt_iff_lt, ge_iff_le, Int.not_lt, Int.not_le, ne_eq, Int.natCast_nonneg, true_and, and_true, Decidable.not_not, not_true_eq_false, not_false_eq_true] at hb3
                rw [← hq] at hr3
                refine Tr.region ?_
                refine TrL.stepS 89 (.plain rfl (.move rfl (.of rfl))) rfl rfl ?_
                refine TrL.stepS 16 (.plain rfl (.assign rfl (.of rfl))) rfl rfl ?_
                refine TrL.nil ?_
                refine Fin.keepG (Γ' := [(0, _), (6, _), (7, _), (8, _), (9, _), (11, _), (12, _), (13, _), (14, _), (15, _), (16, _), (17, _), (35, _), (36, _), (37, _), (65, _), (66, _), (67, _)]) (.same rfl (.same rfl (.same rfl (.same rfl (.same rfl (.same rfl (.same rfl (.same rfl (.same rfl (.same rfl (.same rfl (.same rfl (.same rfl (.same rfl (.same rfl (.same rfl (.same rfl (.same rfl .nil)))))))))))))))))) ?_
                refine Fin.blockNormal ?_
                exact Fin.reach (()) (trivial) (.same rfl (.same rfl (.same rfl (.same rfl (.same rfl (.same rfl (.same rfl (.same rfl .nil)))))))) (.eq rfl (by rw [hst, if_pos hr3]) (.same rfl (.same rfl (.same rfl (.same rfl (.same rfl (.same rfl (.same rfl (.same rfl (.same rfl (.same rfl (.same rfl (.same rfl (.same rfl (.same rfl (.same rfl (.same rfl (.same rfl .nil))))))))))))))))))
              · have hr3 := hb3; try simp only [decide_eq_true_eq, decide_eq_false_iff_not, beq_iff_eq, beq_eq_false_iff_ne, bne_iff_ne, bne_eq_false_iff_eq, Bool.and_eq_true, Bool.and_eq_false_iff, Bool.or_eq_true, Bool.or_eq_false_iff, Bool.not_eq_true', Bool.not_eq_false', gt_iff_lt, ge_iff_le, Int.not_lt, Int.not_le, ne_eq, Int.natCast_nonneg, true_and, and_true, Decidable.not_not, not_true_eq_false, not_false_eq_true] at hb3
                rw [← hq] at hr3
                refine Tr.skip ?_
                refine Fin.blockNormal ?_
                exact Fin.reach (()) (trivial) (.same rfl (.same rfl (.same rfl (.same rfl (.same rfl (.same rfl (.same rfl (.same rfl .nil)))))))) (.eq rfl (by rw [hst, if_neg (by simp [hr3])]) (.same rfl (.same rfl (.same rfl (.same rfl (.same rfl (.same rfl (.same rfl (.same rfl (.same rfl (.same rfl (.same rfl (.same rfl (.same rfl (.same rfl (.same rfl (.same rfl (.same rfl .nil))))))))))))))))))
            case jk17 =>
              intro _ _
              refine Tr.region ?_
              first | refine TrL.stepS 90 (.plain rfl (.addI L.bd_i64 rfl (.of rfl) (.of rfl) (by omega) (by omega))) rfl rfl ?_ | refine TrL.stepS 90 (.plain rfl (.add rfl (.of rfl) (.of rfl))) rfl rfl ?_
              refine TrL.stepS 67 (.plain rfl (.move rfl (.of rfl))) rfl rfl ?_
              refine TrL.nil ?_
              refine Fin.keepG (Γ' := [(0, _), (6, _), (7, _), (8, _), (9, _), (11, _), (12, _), (13, _), (14, _), (15, _), (16, _), (17, _), (35, _), (36, _), (37, _), (65, _), (66, _), (67, _)]) (.same rfl (.same rfl (.same rfl (.same rfl (.same rfl (.same rfl (.same rfl (.same rfl (.same rfl (.same rfl (.same rfl (.same rfl (.same rfl (.same rfl (.same rfl (.same rfl (.same rfl (.same rfl .nil)))))))))))))))))) ?_
              exact Fin.again (j + 1) (by omega) (by omega) (.same rfl (.same rfl (.same rfl (.same rfl (.same rfl (.same rfl (.same rfl (.same rfl .nil)))))))) (.eq rfl (by rfl) (.eq rfl (by first | rfl | (congr 1; first | done | omega | (push_cast; omega) | (push_cast; rfl))) (.same rfl (.same rfl (.same rfl (.same rfl (.same rfl (.same rfl (.same rfl (.same rfl (.same rfl (.same rfl (.same rfl (.same rfl (.same rfl (.same rfl (.same rfl (.same rfl .nil))))))))))))))))))
          · try simp only [decide_eq_true_eq, decide_eq_false_iff_not, beq_iff_eq, beq_eq_false_iff_ne, bne_iff_ne, bne_eq_false_iff_eq, Bool.and_eq_true, Bool.and_eq_false_iff, Bool.or_eq_true, Bool.or_eq_false_iff, Bool.not_eq_true', Bool.not_eq_false', gt_iff_lt, ge_iff_le, Int.not_lt, Int.not_le, ne_eq, Int.natCast_nonneg, true_and, and_true, Decidable.not_not, not_true_eq_false, not_false_eq_true] at hb2
            rw [List.take_of_length_le (show rows.length ≤ j by omega)]
            refine Tr.exit ?_
            refine Fin.thenExit ?_
            refine Fin.thenExit ?_
            refine Fin.blockOut ?_
            refine Fin.next ?_
            refine Tr.seq ?_
            refine Tr.region ?_
            refine TrL.allocS 29 (zs := [.int .u64 0, .int .i64 0, .int .u64 0, .int .u64 0, .bool false]) rfl rfl (by kernel_rfl) 20 rfl rfl rfl fun b29 => ?_
            refine TrL.allocS 30 (zs := [.int .u64 0, .int .i64 0, .int .u64 0, .int .u64 0, .bool false]) rfl rfl (by kernel_rfl) 21 rfl rfl rfl fun b30 => ?_
            refine TrL.nil ?_
            refine Fin.keepG (Γ' := [(0, _), (6, _), (7, _), (8, _), (9, _), (11, _), (12, _), (13, _), (14, _), (15, _), (16, _), (17, _), (20, _), (21, _), (35, _), (36, _), (37, _)]) (.same rfl (.same rfl (.same rfl (.same rfl (.same rfl (.same rfl (.same rfl (.same rfl (.same rfl (.same rfl (.same rfl (.same rfl (.same rfl (.same rfl (.same rfl (.same rfl (.same rfl .nil))))))))))))))))) ?_
            refine Fin.next ?_
            refine Tr.seq ?_
            refine Tr.region ?_
            refine TrL.stepS 22 (.plain rfl (.assign rfl (.of rfl))) rfl rfl ?_
            refine TrL.stepS 23 (.plain rfl (.assign rfl (.of rfl))) rfl rfl ?_
            refine TrL.nil ?_
            refine Fin.next ?_
            refine Tr.seq ?_
            refine Tr.region ?_
            refine TrL.stepS 24 (.plain rfl (.assign rfl (.of rfl))) rfl rfl ?_
            refine TrL.stepS 25 (.plain rfl (.assign rfl (.of rfl))) rfl rfl ?_
            refine TrL.nil ?_
            refine Fin.next ?_
            refine Tr.seqJK (γ := Unit) (Γk := [(0, _), (6, _), (7, _), (8, _), (9, _), (11, _), (12, _), (13, _), (14, _), (15, _), (16, _), (20, _), (21, _), (22, _), (23, _), (24, _), (35, _), (36, _), (37, _)]) (Mk := [(20, _), (21, _), (22, _), (23, _), (24, _), (25, _), (26, _), (27, _), (29, _), (30, _)]) (.same rfl (.same rfl (.same rfl (.same rfl (.same rfl (.same rfl (.same rfl (.same rfl (.same rfl (.same rfl (.same rfl (.same rfl (.same rfl (.same rfl (.same rfl (.same rfl (.same rfl (.same rfl (.same rfl .nil))))))))))))))))))) (.same rfl (.same rfl (.same rfl (.same rfl (.same rfl (.same rfl (.same rfl (.same rfl (.same rfl (.same rfl .nil)))))))))) (fun _ => True) (fun _ => fun r => r) (fun _ => fun r => (25, is (.int .i64 (if (atI pp rows < 0 ∧ 0 < h.1 % 7) ∧ h.1 % 7 < 5 then (if curH h = true then (260 : Int) else 220) else 0))) :: r) ?jx23 ?jk23
            case jx23 =>
              refine Tr.seq ?_
              refine Tr.region ?_
              refine TrL.stepS 91 (.plain rfl (.move rfl (.of rfl))) rfl rfl ?_
              refine TrL.stepS 92 (.plain rfl (.lss rfl (.of rfl) (.of rfl))) rfl rfl ?_
              refine TrL.stepS 93 (.plain rfl (.move rfl (.of rfl))) rfl rfl ?_
              refine TrL.stepS 94 (.guarded rfl rfl rfl fun hg => .fieldP rfl (.of rfl) T.fl106_0) rfl rfl ?_
              refine TrL.stepS 95 (.guarded rfl rfl rfl fun hg => .loadB 24 rfl (.cond rfl hg) rfl rfl rfl T.sc5) rfl rfl ?_
              refine TrL.stepS 96 (.guarded rfl rfl rfl fun hg => OpM.eqI (n := h.1 % 7) (.rem rfl (.cond rfl hg) (.of rfl) (by decide)) (Int.tmod_eq_emod_of_nonneg hok.1.1)) rfl rfl ?_
              refine TrL.stepS 97 (.guarded rfl rfl rfl fun hg => .gtr rfl (.cond rfl hg) (.of rfl)) rfl rfl ?_
              refine TrL.stepS 98 (.plain rfl (.and rfl (.of rfl) (.cond rfl fun h => h))) rfl rfl ?_
              refine TrL.stepS 99 (.plain rfl (.move rfl (.of rfl))) rfl rfl ?_
              refine TrL.stepS 100 (.guarded rfl rfl rfl fun hg => .fieldP rfl (.of rfl) T.fl106_0) rfl rfl ?_
              refine TrL.stepS 101 (.guarded rfl rfl rfl fun hg => .loadB 24 rfl (.cond rfl hg) rfl rfl rfl T.sc5) rfl rfl ?_
              refine TrL.stepS 102 (.guarded rfl rfl rfl fun hg => OpM.eqI (n := h.1 % 7) (.rem rfl (.cond rfl hg) (.of rfl) (by decide)) (Int.tmod_eq_emod_of_nonneg hok.1.1)) rfl rfl ?_
              refine TrL.stepS 103 (.guarded rfl rfl rfl fun hg => .lss rfl (.cond rfl hg) (.of rfl)) rfl rfl ?_
              refine TrL.stepS 104 (.plain rfl (.and rfl (.of rfl) (.cond rfl fun h => h))) rfl rfl ?_
              refine TrL.nil ?_
              refine Fin.keepG (Γ' := [(0, _), (6, _), (7, _), (8, _), (9, _), (11, _), (12, _), (13, _), (14, _), (15, _), (16, _), (17, _), (20, _), (21, _), (22, _), (23, _), (24, _), (25, _), (35, _), (36, _), (37, _), (104, _)]) (.same rfl (.same rfl (.same rfl (.same rfl (.same rfl (.same rfl (.same rfl (.same rfl (.same rfl (.same rfl (.same rfl (.same rfl (.same rfl (.same rfl (.same rfl (.same rfl (.same rfl (.same rfl (.same rfl (.same rfl (.same rfl (.same rfl .nil)))))))))))))))))))))) ?_
              refine Fin.next ?_
              refine Tr.cond rfl (fun hb4 => ?_) (fun hb4 => ?_)
              · try simp only [decide_eq_true_eq, decide_eq_false_iff_not, beq_iff_eq, beq_eq_false_iff_ne, bne_iff_ne, bne_eq_false_iff_eq, Bool.and_eq_true, Bool.and_eq_false_iff, Bool.or_eq_true, Bool.or_eq_false_iff, Bool.not_eq_true', Bool.not_eq_false', gt_iff_lt, ge_iff_le, Int.not_lt, Int.not_le, ne_eq, Int.natCast_nonneg, true_and, and_true, Decidable.not_not, not_true_eq_false, not_false_eq_true] at hb4
                refine Tr.region ?_
                refine TrL.stepS 105 (.plain rfl (.move rfl (.of rfl))) rfl rfl ?_
                refine TrL.stepS 25 (.plain rfl (.assign rfl (.of rfl))) rfl rfl ?_
                refine TrL.nil ?_
                refine Fin.keepG (Γ' := [(0, _), (6, _), (7, _), (8, _), (9, _), (11, _), (12, _), (13, _), (14, _), (15, _), (16, _), (20, _), (21, _), (22, _), (23, _), (24, _), (25, _), (35, _), (36, _), (37, _)]) (.same rfl (.same rfl (.same rfl (.same rfl (.same rfl (.same rfl (.same rfl (.same rfl (.same rfl (.same rfl (.same rfl (.same rfl (.same rfl (.same rfl (.same rfl (.same rfl (.same rfl (.same rfl (.same rfl (.same rfl .nil)))))))))))))))))))) ?_
                exact Fin.reach (()) (trivial) (.same rfl (.same rfl (.same rfl (.same rfl (.same rfl (.same rfl (.same rfl (.same rfl (.same rfl (.same rfl .nil)))))))))) (.eq rfl (by rw [if_pos (show (atI pp rows < 0 ∧ 0 < h.1 % 7) ∧ h.1 % 7 < 5 by omega)]) (.same rfl (.same rfl (.same rfl (.same rfl (.same rfl (.same rfl (.same rfl (.same rfl (.same rfl (.same rfl (.same rfl (.same rfl (.same rfl (.same rfl (.same rfl (.same rfl (.same rfl (.same rfl (.same rfl .nil))))))))))))))))))))
              · try simp only [decide_eq_true_eq, decide_eq_false_iff_not, beq_iff_eq, beq_eq_false_iff_ne, bne_iff_ne, bne_eq_false_iff_eq, Bool.and_eq_true, Bool.and_eq_false_iff, Bool.or_eq_true, Bool.or_eq_false_iff, Bool.not_eq_true', Bool.not_eq_false', gt_iff_lt, ge_iff_le, Int.not_lt, Int.not_le, ne_eq, Int.natCast_nonneg, true_and, and_true, Decidable.not_not, not_true_eq_false, not_false_eq_true] at hb4
                refine Tr.skip ?_
                exact Fin.reach (()) (trivial) (.same rfl (.same rfl (.same rfl (.same rfl (.same rfl (.same rfl (.same rfl (.same rfl (.same rfl (.same rfl .nil)))))))))) (.eq rfl (by rw [if_neg (show ¬ ((atI pp rows < 0 ∧ 0 < h.1 % 7) ∧ h.1 % 7 < 5) by omega)]) (.same rfl (.same rfl (.same rfl (.same rfl (.same rfl (.same rfl (.same rfl (.same rfl (.same rfl (.same rfl (.same rfl (.same rfl (.same rfl (.same rfl (.same rfl (.same rfl (.same rfl (.same rfl (.same rfl .nil))))))))))))))))))))
            case jk23 =>
              intro _ _
              refine Tr.seqJK (γ := Value × Value × Int × Ls × List Ls) (Γk := [(0, _), (6, _), (7, _), (9, _), (20, _), (21, _), (35, _), (36, _), (37, _)]) (Mk := [(24, _), (25, _), (26, _), (27, _)]) (.same rfl (.same rfl (.same rfl (.same rfl (.same rfl (.same rfl (.same rfl (.same rfl (.same rfl .nil))))))))) (.same rfl (.same rfl (.same rfl (.same rfl .nil)))) (fun gp => gp.2.2.2.2.length ≤ 60) (fun gp => fun r => (20, BlkR b [is gp.1, is (.int .i64 (max 0 most)), is (.int .u64 g2)] 197) :: (21, Own leaseR 97 gp.1 r2) :: (22, BlkR b22 [is gp.2.1] 103) :: (23, Own leaseR 97 gp.2.1 r2) :: (29, Blk b29 [.int .u64 gp.2.2.2.1.1, .int .i64 gp.2.2.2.1.2.1, .int .u64 gp.2.2.2.1.2.2.1, .int .u64 gp.2.2.2.1.2.2.2.1, .bool gp.2.2.2.1.2.2.2.2] 97) :: (30, Blk b30 [.int .u64 gp.2.2.2.1.1, .int .i64 gp.2.2.2.1.2.1, .int .u64 gp.2.2.2.1.2.2.1, .int .u64 gp.2.2.2.1.2.2.2.1, .bool gp.2.2.2.1.2.2.2.2] 97) :: r) (fun gp => fun r => (8, is (.int .i64 g2)) :: (22, Lst leaseR gp.2.2.2.2) :: (23, Lst leaseR gp.2.2.2.2) :: (24, is (.int .i64 gp.2.2.1)) :: (25, is (.int .i64 gp.2.2.1)) :: r) ?jx56 ?jk56
              case jx56 =>
                refine Tr.seq ?_
                refine Tr.region ?_
                refine TrL.stepS 106 (.plain rfl (.fieldP rfl (.of rfl) T.fl106_0)) rfl rfl ?_
                refine TrL.stepS 107 (.plain rfl (.loadB 24 rfl (.of rfl) rfl rfl rfl T.sc5)) rfl rfl ?_
                refine TrL.stepS 108 (.plain rfl (OpM.eqI (n := h.1 % 7) (.rem rfl (.of rfl) (.of rfl) (by decide)) (Int.tmod_eq_emod_of_nonneg hok.1.1))) rfl rfl ?_
                refine TrL.nil ?_
                refine Fin.keepG (Γ' := [(0, _), (6, _), (7, _), (8, _), (9, _), (11, _), (12, _), (13, _), (14, _), (15, _), (16, _), (20, _), (21, _), (22, _), (23, _), (24, _), (25, _), (35, _), (36, _), (37, _), (108, _)]) (.same rfl (.same rfl (.same rfl (.same rfl (.same rfl (.same rfl (.same rfl (.same rfl (.same rfl (.same rfl (.same rfl (.same rfl (.same rfl (.same rfl (.same rfl (.same rfl (.same rfl (.same rfl (.same rfl (.same rfl (.same rfl .nil))))))))))))))))))))) ?_
                refine Fin.next ?_
                refine Tr.block ?_
                refine Tr.seq ?_
                refine Tr.region ?_
                refine TrL.stepS 119 (.plain rfl (.eql rfl (.of rfl) (.of rfl))) rfl rfl ?_
                refine TrL.stepS 118 (.plain rfl (.assign rfl (.of rfl))) rfl rfl ?_
                refine TrL.nil ?_
                refine Fin.keepG (Γ' := [(0, _), (6, _), (7, _), (8, _), (9, _), (11, _), (12, _), (13, _), (14, _), (15, _), (16, _), (20, _), (21, _), (22, _), (23, _), (24, _), (25, _), (35, _), (36, _), (37, _), (108, _), (118, _)]) (.same rfl (.same rfl (.same rfl (.same rfl (.same rfl (.same rfl (.same rfl (.same rfl (.same rfl (.same rfl (.same rfl (.same rfl (.same rfl (.same rfl (.same rfl (.same rfl (.same rfl (.same rfl (.same rfl (.same rfl (.same rfl (.same rfl .nil)))))))))))))))))))))) ?_
                refine Fin.next ?_
                refine Tr.cond rfl (fun hb5 => ?_) (fun hb5 => ?_)
                · try simp only [decide_eq_true_eq, decide_eq_false_iff_not, beq_iff_eq, beq_eq_false_iff_ne, bne_iff_ne, bne_eq_false_iff_eq, Bool.and_eq_true, Bool.and_eq_false_iff, Bool.or_eq_true, Bool.or_eq_false_iff, Bool.not_eq_true', Bool.not_eq_false', gt_iff_lt, ge_iff_le, Int.not_lt, Int.not_le, ne_eq, Int.natCast_nonneg, true_and, and_true, Decidable.not_not, not_true_eq_false, not_false_eq_true] at hb5
                  refine Tr.seq ?_
                  refine Tr.region ?_
                  refine TrL.stepS 121 (.plain rfl (.move rfl (.of rfl))) rfl rfl ?_
                  refine TrL.stepS 122 (.plain rfl (.loadB 25 rfl (.of rfl) rfl rfl rfl T.sc3)) rfl rfl ?_
                  refine TrL.stepS 123 (.plain rfl (.loadB 27 rfl (.of rfl) rfl rfl rfl T.sc55)) rfl rfl ?_
                  refine TrL.stepS 124 (.plain rfl (.move rfl (.of rfl))) rfl rfl ?_
                  refine TrL.stepS 125 (.plain rfl (.fieldP rfl (.of rfl) T.fl106_5)) rfl rfl ?_
                  refine TrL.stepS 126 (.plain rfl (.loadB 24 rfl (.of rfl) rfl rfl rfl T.sc4)) rfl rfl ?_
                  refine TrL.callG [] [20, 21] [20, 21] rfl rfl 127 rfl rfl (F55 b vi (max 0 most) g rows (by omega) (h.2.1 % 4) (h.2.2.2.1 % 16) (h.2.2.2.2.1 % 16) h.2.2.2.2.2 (by omega)) (.cons (.of rfl) (.cons (.of rfl) (.cons (.of rfl) (.cons (.of rfl) (.cons (.of rfl) .nil))))) (.same rfl (.same rfl .nil)) rfl rfl (fun _ => rfl) fun v2 => ?_
                  refine TrL.stepS 120 (.plain rfl (.move rfl (.of rfl))) rfl rfl ?_
                  refine TrL.stepS 128 (.plain rfl (.extract rfl (.of rfl) rfl)) rfl rfl ?_
                  refine TrL.stepS 129 (.plain rfl (.extract rfl (.of rfl) rfl)) rfl rfl ?_
                  refine TrL.storeW 29 (vs := [_, _, _, _, _]) rfl rfl rfl (.of rfl) (.of rfl) rfl rfl T.sz97 rfl rfl ?_
                  refine TrL.stepS 24 (.plain rfl (.assign rfl (.of rfl))) rfl rfl ?_
                  refine TrL.nil ?_
                  refine Fin.keepG (Γ' := [(0, _), (6, _), (7, _), (8, _), (9, _), (11, _), (12, _), (14, _), (15, _), (20, _), (21, _), (22, _), (23, _), (24, _), (35, _), (36, _), (37, _)]) (.same rfl (.same rfl (.same rfl (.same rfl (.same rfl (.same rfl (.same rfl (.same rfl (.same rfl (.same rfl (.same rfl (.same rfl (.same rfl (.same rfl (.same rfl (.same rfl (.same rfl .nil))))))))))))))))) ?_
                  refine Fin.next ?_
                  refine Tr.seq ?_
                  refine Tr.region ?_
                  refine TrL.stepS 25 (.plain rfl (.assign rfl (.of rfl))) rfl rfl ?_
                  refine TrL.nil ?_
                  refine Fin.next ?_
                  refine Tr.seq ?_
                  refine Tr.region ?_
                  refine TrL.stepS 130 (.plain rfl (.loadR 22 rfl (.of rfl) rfl rfl rfl T.sc103)) rfl rfl ?_
                  refine TrL.stepS 131 (.plain rfl (.lenV 23 rfl (.of rfl) rfl Own.view rfl Try.underlying103)) rfl rfl ?_
                  refine TrL.stepS 132 (.plain rfl (.move rfl (.of rfl))) rfl rfl ?_
                  refine TrL.stepS 133 (.plain rfl (.max2 rfl (.of rfl) (.of rfl))) rfl rfl ?_
                  refine TrL.stepS 134 (.plain rfl (.lss rfl (.of rfl) (.of rfl))) rfl rfl ?_
                  refine TrL.nil ?_
                  refine Fin.keepG (Γ' := [(0, _), (6, _), (7, _), (8, _), (9, _), (11, _), (12, _), (14, _), (15, _), (20, _), (21, _), (22, _), (23, _), (24, _), (25, _), (35, _), (36, _), (37, _), (134, _)]) (.same rfl (.same rfl (.same rfl (.same rfl (.same rfl (.same rfl (.same rfl (.same rfl (.same rfl (.same rfl (.same rfl (.same rfl (.same rfl (.same rfl (.same rfl (.same rfl (.same rfl (.same rfl (.same rfl .nil))))))))))))))))))) ?_
                  refine Fin.next ?_
                  refine Tr.cond rfl (fun hb6 => ?_) (fun hb6 => ?_)
                  · try simp only [decide_eq_true_eq, decide_eq_false_iff_not, beq_iff_eq, beq_eq_false_iff_ne, bne_iff_ne, bne_eq_false_iff_eq, Bool.and_eq_true, Bool.and_eq_false_iff, Bool.or_eq_true, Bool.or_eq_false_iff, Bool.not_eq_true', Bool.not_eq_false', gt_iff_lt, ge_iff_le, Int.not_lt, Int.not_le, ne_eq, Int.natCast_nonneg, true_and, and_true, Decidable.not_not, not_true_eq_false, not_false_eq_true] at hb6
                    obtain ⟨rfl, rfl⟩ : rows ++ [(g + 1, (h.2.1 % 4), (h.2.2.2.1 % 16), (h.2.2.2.2.1 % 16), h.2.2.2.2.2)] = r2 ∧ g + 1 = g2 := by
                      have hs' := hs
                      unfold stepH at hs'
                      rw [if_pos hb5, if_pos hb6] at hs'
                      exact Prod.mk.inj hs'
                    refine Tr.seq ?_
                    refine Tr.region ?_
                    refine TrL.stepS 135 (.plain rfl (.move rfl (.of rfl))) rfl rfl ?_
                    first | refine TrL.stepS 136 (.plain rfl (.addI L.bd_i64 rfl (.of rfl) (.of rfl) (by omega) (by omega))) rfl rfl ?_ | refine TrL.stepS 136 (.plain rfl (.add rfl (.of rfl) (.of rfl))) rfl rfl ?_
                    refine TrL.stepS 8 (.plain rfl (.assign rfl (.of rfl))) rfl rfl ?_
                    refine TrL.nil ?_
                    refine Fin.keepG (Γ' := [(0, _), (6, _), (7, _), (8, _), (9, _), (11, _), (12, _), (14, _), (15, _), (20, _), (21, _), (22, _), (23, _), (24, _), (35, _), (36, _), (37, _)]) (.same rfl (.same rfl (.same rfl (.same rfl (.same rfl (.same rfl (.same rfl (.same rfl (.same rfl (.same rfl (.same rfl (.same rfl (.same rfl (.same rfl (.same rfl (.same rfl (.same rfl .nil))))))))))))))))) ?_
                    refine Fin.next ?_
                    refine Tr.seq ?_
                    refine Tr.regionW [([], [], []), ([], [], []), ([25], [], []), ([27], [], []), ([], [], []), ([24], [], []), ([24], [], []), ([], [], []), ([], [], []), ([30], [30], [])] T.mixed (by kernel_rfl) (by kernel_rfl) (by kernel_rfl) (by kernel_rfl) ?_
                    refine AChain.rd 137 rfl (fun σ => .plain rfl (.move rfl (.of rfl))) rfl rfl (fun _ _ => rfl) (L.Dep.const) ?_
                    first | refine AChain.rd 138 rfl (fun σ => .plain rfl (.convI L.bd_u64 rfl (.of rfl) T.us3 Try.underlying55 (by omega) (by omega))) rfl rfl (fun _ _ => rfl) (L.Dep.const) ?_ | refine AChain.rd 138 rfl (fun σ => .plain rfl (.conv rfl (.of rfl) T.us3 Try.underlying55)) rfl rfl (fun _ _ => rfl) (L.Dep.const) ?_
                    refine AChain.rd 139 rfl (fun σ => .plain rfl (.loadB 25 rfl (.of rfl) rfl rfl rfl T.sc3)) rfl rfl (fun _ _ => rfl) (L.Dep.const) ?_
                    refine AChain.rd 140 rfl (fun σ => .plain rfl (.loadB 27 rfl (.of rfl) rfl rfl rfl T.sc55)) rfl rfl (fun _ _ => rfl) (L.Dep.const) ?_
                    refine AChain.rd 141 rfl (fun σ => .plain rfl (.move rfl (.of rfl))) rfl rfl (fun _ _ => rfl) (L.Dep.const) ?_
                    refine AChain.rd 142 rfl (fun σ => .plain rfl (.fieldP rfl (.of rfl) T.fl106_5)) rfl rfl (fun _ _ => rfl) (L.Dep.const) ?_
                    refine AChain.rd 143 rfl (fun σ => .plain rfl (.loadB 24 rfl (.of rfl) rfl rfl rfl T.sc4)) rfl rfl (fun _ _ => rfl) (L.Dep.const) ?_
                    refine AChain.rd 144 rfl (fun σ => .plain rfl (.build rfl (.cons (.of rfl) (.cons (.of rfl) (.cons (.of rfl) (.cons (.of rfl) (.cons (.of rfl) .nil))))) (T.H5bd97_0_1_2_3_4 _ _ _ _ _))) rfl rfl (fun _ _ => rfl) (L.Dep.const) ?_
                    refine AChain.rd 25 rfl (fun σ => .plain rfl (.assign rfl (.of rfl))) rfl rfl (fun _ _ => rfl) (L.Dep.const) ?_
                    refine AChain.wr1 30 rfl rfl rfl rfl (fun w0 κ0 σ => TrL.storeW 30 (vs := [_, _, _, _, _]) rfl rfl rfl (.of rfl) (.of rfl) rfl rfl T.sz97 rfl rfl (TrL.done0 (.free rfl .nil))) ?_
                    refine AChain.nil ?_
                    intro s31
                    refine Fin.keepG (Γ' := [(0, _), (6, _), (7, _), (8, _), (9, _), (20, _), (21, _), (22, _), (23, _), (24, _), (25, _), (35, _), (36, _), (37, _)]) (.same rfl (.same rfl (.same rfl (.same rfl (.same rfl (.same rfl (.same rfl (.same rfl (.same rfl (.same rfl (.same rfl (.same rfl (.same rfl (.same rfl .nil)))))))))))))) ?_
                    refine Fin.next ?_
                    refine Tr.region ?_
                    refine TrL.stepS 145 (.plain rfl (.loadR 22 rfl (.of rfl) rfl rfl rfl T.sc103)) rfl rfl ?_
                    refine TrL.stepS 146 (.plain rfl (.loadBN 30 (k := 5) (ds := [_, _, _, _, _]) rfl (.of rfl) rfl rfl rfl T.ag97 rfl)) rfl rfl ?_
                    refine TrL.stepS 147 (.plain rfl (.slice (K := leaseR) (xs := [_]) rfl (.cons (.map (.of rfl) (leaseR_elem _ _ _ _ _)) .nil) Try.underlying103 T.sz97 T.zb97 rfl (by decide))) rfl rfl ?_
                    refine TrL.appendS 23 (bytes := 40) rfl rfl 148 rfl rfl (.of rfl) rfl rfl (.of rfl) Try.underlying103 T.el97 (by simp) (by simp; omega) (by simp only [maxLen, List.length_append, List.length_cons, List.length_nil, List.length_map, List.length_take]; omega) fun v148 => ?_
                    refine TrL.memP 23 rfl rfl own_form fun hf => ?_
                    refine TrL.storeR1 22 rfl rfl rfl (.of rfl) (.of rfl) rfl rfl (L.h1sl hf) T.sz103 rfl ?_
                    refine TrL.nil ?_
                    refine Fin.keepG (Γ' := [(0, _), (6, _), (7, _), (8, _), (9, _), (20, _), (21, _), (22, _), (23, _), (24, _), (25, _), (35, _), (36, _), (37, _)]) (.same rfl (.same rfl (.same rfl (.same rfl (.same rfl (.same rfl (.same rfl (.same rfl (.same rfl (.same rfl (.same rfl (.same rfl (.same rfl (.same rfl .nil)))))))))))))) ?_
                    refine Fin.blockNormal ?_
                    exact Fin.reach ((v2, v148, 0, (g + 1, (h.2.1 % 4), (h.2.2.2.1 % 16), (h.2.2.2.2.1 % 16), h.2.2.2.2.2), [])) (by simp) (.cons rfl (fun F L w h => by rw [if_neg (by omega)] at h; exact h) (.cons rfl (fun F L w h => by unfold grantR at h; rw [if_neg (by omega)] at h; exact h) (.same rfl (.same rfl (.cons rfl (fun F L w h => by unfold grantV at h; rw [if_neg (by omega)] at h; exact h) (.same rfl (.same rfl (.same rfl (.same rfl (.same rfl .nil)))))))))) (.eq rfl (by first | rfl | (congr 1; first | done | omega | (push_cast; omega) | (push_cast; rfl))) (.cons rfl (fun _ _ h => L.lst_nil' h) (.cons rfl (fun _ _ h => L.lst_nil' h) (.eq rfl (by rw [if_neg (by omega)]) (.eq rfl (by rfl) (.same rfl (.same rfl (.same rfl (.same rfl (.same rfl (.same rfl (.same rfl (.same rfl (.same rfl .nil))))))))))))))
                  · try simp only [decide_eq_true_eq, decide_eq_false_iff_not, beq_iff_eq, beq_eq_false_iff_ne, bne_iff_ne, bne_eq_false_iff_eq, Bool.and_eq_true, Bool.and_eq_false_iff, Bool.or_eq_true, Bool.or_eq_false_iff, Bool.not_eq_true', Bool.not_eq_false', gt_iff_lt, ge_iff_le, Int.not_lt, Int.not_le, ne_eq, Int.natCast_nonneg, true_and, and_true, Decidable.not_not, not_true_eq_false, not_false_eq_true] at hb6
                    obtain ⟨rfl, rfl⟩ : rows = r2 ∧ g = g2 := by
                      have hs' := hs
                      unfold stepH at hs'
                      rw [if_pos hb5, if_neg (by dsimp only; omega)] at hs'
                      exact Prod.mk.inj hs'
                    refine Tr.skip ?_
                    refine Fin.blockNormal ?_
                    exact Fin.reach ((v2, vm, 280, zL, [])) (by simp) (.cons rfl (fun F L w h => by rw [if_pos (by omega)] at h; exact h) (.cons rfl (fun F L w h => by unfold grantR at h; rw [if_pos (by omega)] at h; exact h) (.same rfl (.same rfl (.cons rfl (fun F L w h => by unfold grantV at h; rw [if_pos (by omega)] at h; exact h) (.same rfl (.same rfl (.same rfl (.same rfl (.same rfl .nil)))))))))) (.eq rfl (by first | rfl | (congr 1; first | done | omega | (push_cast; omega) | (push_cast; rfl))) (.cons rfl (fun _ _ h => L.lst_nil' h) (.cons rfl (fun _ _ h => L.lst_nil' h) (.eq rfl (by rw [if_pos (by omega)]) (.eq rfl (by rfl) (.same rfl (.same rfl (.same rfl (.same rfl (.same rfl (.same rfl (.same rfl (.same rfl (.same rfl .nil))))))))))))))
                · try simp only [decide_eq_true_eq, decide_eq_false_iff_not, beq_iff_eq, beq_eq_false_iff_ne, bne_iff_ne, bne_eq_false_iff_eq, Bool.and_eq_true, Bool.and_eq_false_iff, Bool.or_eq_true, Bool.or_eq_false_iff, Bool.not_eq_true', Bool.not_eq_false', gt_iff_lt, ge_iff_le, Int.not_lt, Int.not_le, ne_eq, Int.natCast_nonneg, true_and, and_true, Decidable.not_not, not_true_eq_false, not_false_eq_true] at hb5
                  refine Tr.seq ?_
                  refine Tr.region ?_
                  refine TrL.stepS 150 (.plain rfl (.eql rfl (.of rfl) (.of rfl))) rfl rfl ?_
                  refine TrL.stepS 149 (.plain rfl (.assign rfl (.of rfl))) rfl rfl ?_
                  refine TrL.nil ?_
                  refine Fin.keepG (Γ' := [(0, _), (6, _), (7, _), (8, _), (9, _), (11, _), (12, _), (13, _), (14, _), (15, _), (16, _), (20, _), (21, _), (22, _), (23, _), (24, _), (25, _), (35, _), (36, _), (37, _), (108, _), (149, _)]) (.same rfl (.same rfl (.same rfl (.same rfl (.same rfl (.same rfl (.same rfl (.same rfl (.same rfl (.same rfl (.same rfl (.same rfl (.same rfl (.same rfl (.same rfl (.same rfl (.same rfl (.same rfl (.same rfl (.same rfl (.same rfl (.same rfl .nil)))))))))))))))))))))) ?_
                  refine Fin.next ?_
                  refine Tr.cond rfl (fun hb7 => ?_) (fun hb7 => ?_)
                  · try simp only [decide_eq_true_eq, decide_eq_false_iff_not, beq_iff_eq, beq_eq_false_iff_ne, bne_iff_ne, bne_eq_false_iff_eq, Bool.and_eq_true, Bool.and_eq_false_iff, Bool.or_eq_true, Bool.or_eq_false_iff, Bool.not_eq_true', Bool.not_eq_false', gt_iff_lt, ge_iff_le, Int.not_lt, Int.not_le, ne_eq, Int.natCast_nonneg, true_and, and_true, Decidable.not_not, not_true_eq_false, not_false_eq_true] at hb7
                    have hcu : curH h = h.2.2.2.2.2 := by unfold curH; rw [show (h.1 % 7 == 4) = false by simp; omega, Bool.or_false]
                    have hp2 : hasP (h.2.2.1 % 12) (h.2.1 % 4) h.2.2.2.2.2 = pp := by rw [hpp, hcu]
                    obtain ⟨rfl, rfl⟩ : rows = r2 ∧ g = g2 := by
                      have hs' := hs
                      unfold stepH at hs'
                      rw [if_neg (show ¬ h.1 % 7 = 0 by omega), if_pos hb7] at hs'
                      exact Prod.mk.inj hs'
                    refine Tr.seq ?_
                    refine Tr.region ?_
                    refine TrL.stepS 152 (.plain rfl (.move rfl (.of rfl))) rfl rfl ?_
                    refine TrL.stepS 153 (.plain rfl (.loadB 25 rfl (.of rfl) rfl rfl rfl T.sc3)) rfl rfl ?_
                    refine TrL.stepS 154 (.plain rfl (.loadB 26 rfl (.of rfl) rfl rfl rfl T.sc55)) rfl rfl ?_
                    refine TrL.stepS 155 (.plain rfl (.fieldP rfl (.of rfl) T.fl106_5)) rfl rfl ?_
                    refine TrL.stepS 156 (.plain rfl (.loadB 24 rfl (.of rfl) rfl rfl rfl T.sc4)) rfl rfl ?_
                    refine TrL.stepS 157 (.plain rfl (.callR [20, 21] rfl (F57 b vi (max 0 most) g rows (by omega) (h.2.1 % 4) (h.2.2.1 % 12) h.2.2.2.2.2) (.cons (.of rfl) (.cons (.of rfl) (.cons (.of rfl) (.cons (.of rfl) .nil)))) (.same rfl (.same rfl .nil)) rfl)) rfl rfl ?_
                    refine TrL.stepS 151 (.plain rfl (.move rfl (.of rfl))) rfl rfl ?_
                    refine TrL.stepS 158 (.plain rfl (.extract rfl (.of rfl) rfl)) rfl rfl ?_
                    refine TrL.stepS 159 (.plain rfl (.extract rfl (.of rfl) rfl)) rfl rfl ?_
                    refine TrL.storeW 29 (vs := [_, _, _, _, _]) rfl rfl rfl (.of rfl) (.of rfl) rfl rfl T.sz97 rfl rfl ?_
                    refine TrL.stepS 24 (.plain rfl (.assign rfl (.of rfl))) rfl rfl ?_
                    refine TrL.nil ?_
                    rw [hp2]
                    refine Fin.keepG (Γ' := [(0, _), (6, _), (7, _), (8, _), (9, _), (16, _), (20, _), (21, _), (22, _), (23, _), (24, _), (25, _), (35, _), (36, _), (37, _)]) (.same rfl (.same rfl (.same rfl (.same rfl (.same rfl (.same rfl (.same rfl (.same rfl (.same rfl (.same rfl (.same rfl (.same rfl (.same rfl (.same rfl (.same rfl .nil))))))))))))))) ?_
                    refine Fin.next ?_
                    refine Tr.seq ?_
                    refine Tr.region ?_
                    refine TrL.stepS 160 (.plain rfl (.move rfl (.of rfl))) rfl rfl ?_
                    refine TrL.stepS 161 (.plain rfl (.geq rfl (.of rfl) (.of rfl))) rfl rfl ?_
                    refine TrL.nil ?_
                    refine Fin.keepG (Γ' := [(0, _), (6, _), (7, _), (8, _), (9, _), (16, _), (20, _), (21, _), (22, _), (23, _), (24, _), (25, _), (35, _), (36, _), (37, _), (161, _)]) (.same rfl (.same rfl (.same rfl (.same rfl (.same rfl (.same rfl (.same rfl (.same rfl (.same rfl (.same rfl (.same rfl (.same rfl (.same rfl (.same rfl (.same rfl (.same rfl .nil)))))))))))))))) ?_
                    refine Fin.next ?_
                    refine Tr.cond rfl (fun hb8 => ?_) (fun hb8 => ?_)
                    · try simp only [decide_eq_true_eq, decide_eq_false_iff_not, beq_iff_eq, beq_eq_false_iff_ne, bne_iff_ne, bne_eq_false_iff_eq, Bool.and_eq_true, Bool.and_eq_false_iff, Bool.or_eq_true, Bool.or_eq_false_iff, Bool.not_eq_true', Bool.not_eq_false', gt_iff_lt, ge_iff_le, Int.not_lt, Int.not_le, ne_eq, Int.natCast_nonneg, true_and, and_true, Decidable.not_not, not_true_eq_false, not_false_eq_true] at hb8
                      have hlt := atI_pos.1 hb8
                      have hat := atI_here hlt
                      obtain ⟨x, hx, hpx⟩ := ix_get hlt
                      have hgx := getD_of (d := zL) hx
                      refine Tr.region ?_
                      refine TrL.stepS 162 (.plain rfl (.loadR 22 rfl (.of rfl) rfl rfl rfl T.sc103)) rfl rfl ?_
                      refine TrL.stepS 163 (.plain rfl (.move rfl (.of rfl))) rfl rfl ?_
                      refine TrL.stepS 164 (.plain rfl (.indexN 23 (ix pp rows) rfl (.of rfl) (.of rfl) rfl Own.view rfl Try.underlying103 T.sz97 (by rw [hat]) (hx))) rfl rfl ?_
                      refine TrL.stepS 165 (.plain rfl (.loadWV 23 (ix pp rows) 0 5 (ds := [_, _, _, _, _]) rfl (.of rfl) rfl Own.view rfl (hx) rfl rfl T.ag97)) rfl rfl ?_
                      refine TrL.storeW 30 (vs := [_, _, _, _, _]) rfl rfl rfl (.of rfl) (.of rfl) rfl rfl T.sz97 rfl rfl ?_
                      refine TrL.nil ?_
                      refine Fin.keepG (Γ' := [(0, _), (6, _), (7, _), (8, _), (9, _), (20, _), (21, _), (22, _), (23, _), (24, _), (25, _), (35, _), (36, _), (37, _)]) (.same rfl (.same rfl (.same rfl (.same rfl (.same rfl (.same rfl (.same rfl (.same rfl (.same rfl (.same rfl (.same rfl (.same rfl (.same rfl (.same rfl .nil)))))))))))))) ?_
                      refine Fin.blockNormal ?_
                      exact Fin.reach ((vi, vm, 0, x, [])) (by simp) (.same rfl (.same rfl (.same rfl (.same rfl (.cons rfl (fun F L w h => by rw [hgx] at h; exact h) (.same rfl (.same rfl (.same rfl (.same rfl (.same rfl .nil)))))))))) (.eq rfl (by first | rfl | (congr 1; first | done | omega | (push_cast; omega) | (push_cast; rfl))) (.cons rfl (fun _ _ h => L.lst_nil' h) (.cons rfl (fun _ _ h => L.lst_nil' h) (.eq rfl (by rw [errF_zero.2 hlt]) (.eq rfl (by rw [if_neg (by omega)]) (.same rfl (.same rfl (.same rfl (.same rfl (.same rfl (.same rfl (.same rfl (.same rfl (.same rfl .nil))))))))))))))
                    · try simp only [decide_eq_true_eq, decide_eq_false_iff_not, beq_iff_eq, beq_eq_false_iff_ne, bne_iff_ne, bne_eq_false_iff_eq, Bool.and_eq_true, Bool.and_eq_false_iff, Bool.or_eq_true, Bool.or_eq_false_iff, Bool.not_eq_true', Bool.not_eq_false', gt_iff_lt, ge_iff_le, Int.not_lt, Int.not_le, ne_eq, Int.natCast_nonneg, true_and, and_true, Decidable.not_not, not_true_eq_false, not_false_eq_true] at hb8
                      have hnl : ¬ ix pp rows < rows.length := fun h' => by have := atI_pos.2 h'; omega
                      refine Tr.skip ?_
                      refine Fin.blockNormal ?_
                      exact Fin.reach ((vi, vm, (if h.2.2.2.2.2 = true then 260 else 220), zL, [])) (by simp) (.same rfl (.same rfl (.same rfl (.same rfl (.cons rfl (fun F L w h => by rw [getD_len (by omega)] at h; exact h) (.same rfl (.same rfl (.same rfl (.same rfl (.same rfl .nil)))))))))) (.eq rfl (by first | rfl | (congr 1; first | done | omega | (push_cast; omega) | (push_cast; rfl))) (.cons rfl (fun _ _ h => L.lst_nil' h) (.cons rfl (fun _ _ h => L.lst_nil' h) (.eq rfl (by rw [errF_not hnl]) (.eq rfl (by rw [if_pos (by omega), hcu]) (.same rfl (.same rfl (.same rfl (.same rfl (.same rfl (.same rfl (.same rfl (.same rfl (.same rfl .nil))))))))))))))
                  · try simp only [decide_eq_true_eq, decide_eq_false_iff_not, beq_iff_eq, beq_eq_false_iff_ne, bne_iff_ne, bne_eq_false_iff_eq, Bool.and_eq_true, Bool.and_eq_false_iff, Bool.or_eq_true, Bool.or_eq_false_iff, Bool.not_eq_true', Bool.not_eq_false', gt_iff_lt, ge_iff_le, Int.not_lt, Int.not_le, ne_eq, Int.natCast_nonneg, true_and, and_true, Decidable.not_not, not_true_eq_false, not_false_eq_true] at hb7
                    refine Tr.seq ?_
                    refine Tr.region ?_
                    refine TrL.stepS 167 (.plain rfl (.eql rfl (.of rfl) (.of rfl))) rfl rfl ?_
                    refine TrL.stepS 166 (.plain rfl (.assign rfl (.of rfl))) rfl rfl ?_
                    refine TrL.nil ?_
                    refine Fin.keepG (Γ' := [(0, _), (6, _), (7, _), (8, _), (9, _), (11, _), (12, _), (13, _), (14, _), (15, _), (16, _), (20, _), (21, _), (22, _), (23, _), (24, _), (25, _), (35, _), (36, _), (37, _), (108, _), (166, _)]) (.same rfl (.same rfl (.same rfl (.same rfl (.same rfl (.same rfl (.same rfl (.same rfl (.same rfl (.same rfl (.same rfl (.same rfl (.same rfl (.same rfl (.same rfl (.same rfl (.same rfl (.same rfl (.same rfl (.same rfl (.same rfl (.same rfl .nil)))))))))))))))))))))) ?_
                    refine Fin.next ?_
                    refine Tr.cond rfl (fun hb9 => ?_) (fun hb9 => ?_)
                    · try simp only [decide_eq_true_eq, decide_eq_false_iff_not, beq_iff_eq, beq_eq_false_iff_ne, bne_iff_ne, bne_eq_false_iff_eq, Bool.and_eq_true, Bool.and_eq_false_iff, Bool.or_eq_true, Bool.or_eq_false_iff, Bool.not_eq_true', Bool.not_eq_false', gt_iff_lt, ge_iff_le, Int.not_lt, Int.not_le, ne_eq, Int.natCast_nonneg, true_and, and_true, Decidable.not_not, not_true_eq_false, not_false_eq_true] at hb9
                      have hcu : curH h = h.2.2.2.2.2 := by unfold curH; rw [show (h.1 % 7 == 4) = false by simp; omega, Bool.or_false]
                      have hp2 : hasP (h.2.2.1 % 12) (h.2.1 % 4) h.2.2.2.2.2 = pp := by rw [hpp, hcu]
                      obtain ⟨rfl, rfl⟩ : renewR (hasP (h.2.2.1 % 12) (h.2.1 % 4) h.2.2.2.2.2) rows (h.2.2.2.2.1 % 16) = r2 ∧ g = g2 := by
                        have hs' := hs
                        unfold stepH at hs'
                        rw [if_neg (show ¬ h.1 % 7 = 0 by omega), if_neg (show ¬ h.1 % 7 = 1 by omega), if_pos hb9] at hs'
                        exact Prod.mk.inj hs'
                      refine Tr.seq ?_
                      refine Tr.region ?_
                      refine TrL.stepS 169 (.plain rfl (.move rfl (.of rfl))) rfl rfl ?_
                      refine TrL.stepS 170 (.plain rfl (.loadB 25 rfl (.of rfl) rfl rfl rfl T.sc3)) rfl rfl ?_
                      refine TrL.stepS 171 (.plain rfl (.loadB 26 rfl (.of rfl) rfl rfl rfl T.sc55)) rfl rfl ?_
                      refine TrL.stepS 172 (.plain rfl (.move rfl (.of rfl))) rfl rfl ?_
                      refine TrL.stepS 173 (.plain rfl (.fieldP rfl (.of rfl) T.fl106_5)) rfl rfl ?_
                      refine TrL.stepS 174 (.plain rfl (.loadB 24 rfl (.of rfl) rfl rfl rfl T.sc4)) rfl rfl ?_
                      refine TrL.callG [] [20, 21] [20, 21] rfl rfl 175 rfl rfl (F59 b vi (max 0 most) g rows (by omega) (h.2.1 % 4) (h.2.2.1 % 12) (h.2.2.2.2.1 % 16) h.2.2.2.2.2) (.cons (.of rfl) (.cons (.of rfl) (.cons (.of rfl) (.cons (.of rfl) (.cons (.of rfl) .nil))))) (.same rfl (.same rfl .nil)) rfl rfl (fun _ => rfl) fun _ => ?_
                      refine TrL.stepS 168 (.plain rfl (.move rfl (.of rfl))) rfl rfl ?_
                      refine TrL.stepS 176 (.plain rfl (.extract rfl (.of rfl) rfl)) rfl rfl ?_
                      refine TrL.stepS 177 (.plain rfl (.extract rfl (.of rfl) rfl)) rfl rfl ?_
                      refine TrL.storeW 29 (vs := [_, _, _, _, _]) rfl rfl rfl (.of rfl) (.of rfl) rfl rfl T.sz97 rfl rfl ?_
                      refine TrL.stepS 24 (.plain rfl (.assign rfl (.of rfl))) rfl rfl ?_
                      refine TrL.nil ?_
                      rw [hp2]
                      refine Fin.keepG (Γ' := [(0, _), (6, _), (7, _), (8, _), (9, _), (15, _), (16, _), (20, _), (21, _), (22, _), (23, _), (24, _), (25, _), (35, _), (36, _), (37, _)]) (.same rfl (.same rfl (.same rfl (.same rfl (.same rfl (.same rfl (.same rfl (.same rfl (.same rfl (.same rfl (.same rfl (.same rfl (.same rfl (.same rfl (.same rfl (.same rfl .nil)))))))))))))))) ?_
                      refine Fin.next ?_
                      refine Tr.seq ?_
                      refine Tr.region ?_
                      refine TrL.stepS 178 (.plain rfl (.move rfl (.of rfl))) rfl rfl ?_
                      refine TrL.stepS 179 (.plain rfl (.geq rfl (.of rfl) (.of rfl))) rfl rfl ?_
                      refine TrL.nil ?_
                      refine Fin.keepG (Γ' := [(0, _), (6, _), (7, _), (8, _), (9, _), (15, _), (16, _), (20, _), (21, _), (22, _), (23, _), (24, _), (25, _), (35, _), (36, _), (37, _), (179, _)]) (.same rfl (.same rfl (.same rfl (.same rfl (.same rfl (.same rfl (.same rfl (.same rfl (.same rfl (.same rfl (.same rfl (.same rfl (.same rfl (.same rfl (.same rfl (.same rfl (.same rfl .nil))))))))))))))))) ?_
                      refine Fin.next ?_
                      refine Tr.cond rfl (fun hb10 => ?_) (fun hb10 => ?_)
                      · try simp only [decide_eq_true_eq, decide_eq_false_iff_not, beq_iff_eq, beq_eq_false_iff_ne, bne_iff_ne, bne_eq_false_iff_eq, Bool.and_eq_true, Bool.and_eq_false_iff, Bool.or_eq_true, Bool.or_eq_false_iff, Bool.not_eq_true', Bool.not_eq_false', gt_iff_lt, ge_iff_le, Int.not_lt, Int.not_le, ne_eq, Int.natCast_nonneg, true_and, and_true, Decidable.not_not, not_true_eq_false, not_false_eq_true] at hb10
                        have hlt := atI_pos.1 hb10
                        have hat := atI_here hlt
                        obtain ⟨x, hx, hpx⟩ := ix_get hlt
                        have hgx := getD_of (d := zL) hx
                        refine Tr.seq ?_
                        refine Tr.regionW [([22], [], []), ([], [], []), ([22], [], []), ([], [], []), ([23], [], []), ([23], [], []), ([23], [], []), ([], [], []), ([], [], []), ([23], [], []), ([23], [], []), ([23], [23], [])] T.mixed (by kernel_rfl) (by kernel_rfl) (by kernel_rfl) (by kernel_rfl) ?_
                        refine AChain.rd 180 rfl (fun σ => .plain rfl (.loadR 22 rfl (.of rfl) rfl rfl rfl T.sc103)) rfl rfl (fun _ _ => rfl) (L.Dep.const) ?_
                        refine AChain.rd 181 rfl (fun σ => .plain rfl (.move rfl (.of rfl))) rfl rfl (fun _ _ => rfl) (L.Dep.const) ?_
                        refine AChain.rd 182 rfl (fun σ => .plain rfl (.loadR 22 rfl (.of rfl) rfl rfl rfl T.sc103)) rfl rfl (fun _ _ => rfl) (L.Dep.const) ?_
                        refine AChain.rd 183 rfl (fun σ => .plain rfl (.move rfl (.of rfl))) rfl rfl (fun _ _ => rfl) (L.Dep.const) ?_
                        refine AChain.rd 184 rfl (fun σ => .plain rfl (.indexN 23 (ix pp rows) rfl (.of rfl) (.of rfl) rfl Own.view rfl Try.underlying103 T.sz97 (by rw [hat]) (hx))) rfl rfl (fun _ _ => rfl) (L.Dep.const) ?_
                        refine AChain.rd 185 rfl (fun σ => .plain rfl (.fieldW 23 rfl (.of rfl) rfl Own.view rfl (L.hz_pos (hx)) T.fl97_3)) rfl rfl (fun _ _ => rfl) (L.Dep.const) ?_
                        refine AChain.rd 186 rfl (fun σ => .plain rfl (.loadW 23 (ix pp rows) 3 rfl (.of rfl) rfl Own.view rfl (hx) rfl T.sc55)) rfl rfl (fun _ _ => rfl) (L.Dep.const) ?_
                        refine AChain.rd 187 rfl (fun σ => .plain rfl (.move rfl (.of rfl))) rfl rfl (fun _ _ => rfl) (L.Dep.const) ?_
                        refine AChain.rd 188 rfl (fun σ => .plain rfl (.max2 rfl (.of rfl) (.of rfl))) rfl rfl (fun _ _ => rfl) (L.Dep.const) ?_
                        refine AChain.rd 189 rfl (fun σ => .plain rfl (.indexN 23 (ix pp rows) rfl (.of rfl) (.of rfl) rfl Own.view rfl Try.underlying103 T.sz97 (by rw [hat]) (hx))) rfl rfl (fun _ _ => rfl) (L.Dep.const) ?_
                        refine AChain.rd 190 rfl (fun σ => .plain rfl (.fieldW 23 rfl (.of rfl) rfl Own.view rfl (L.hz_pos (hx)) T.fl97_3)) rfl rfl (fun _ _ => rfl) (L.Dep.const) ?_
                        refine AChain.wr1 23 rfl rfl rfl rfl (fun w0 κ0 σ => TrL.storeO 23 (ix pp rows) 3 (z' := setU x (h.2.2.2.2.1 % 16)) rfl rfl rfl (.of rfl) (.of rfl) (L.hR1 (L.h1is rfl rfl)) rfl rfl (hx) rfl rfl T.sz55 (TrL.done0 (.free rfl .nil))) ?_
                        refine AChain.nil ?_
                        intro s40
                        refine Fin.keepG (Γ' := [(0, _), (6, _), (7, _), (8, _), (9, _), (16, _), (20, _), (21, _), (22, _), (23, _), (24, _), (25, _), (35, _), (36, _), (37, _)]) (.same rfl (.same rfl (.same rfl (.same rfl (.same rfl (.same rfl (.same rfl (.same rfl (.same rfl (.same rfl (.same rfl (.same rfl (.same rfl (.same rfl (.same rfl .nil))))))))))))))) ?_
                        refine Fin.next ?_
                        refine Tr.region ?_
                        refine TrL.stepS 191 (.plain rfl (.loadR 22 rfl (.of rfl) rfl rfl rfl T.sc103)) rfl rfl ?_
                        refine TrL.stepS 192 (.plain rfl (.move rfl (.of rfl))) rfl rfl ?_
                        refine TrL.stepS 193 (.plain rfl (.indexN 23 (ix pp rows) rfl (.of rfl) (.of rfl) rfl Own.view rfl Try.underlying103 T.sz97 (by rw [hat]) (List.getElem?_set_self hlt))) rfl rfl ?_
                        refine TrL.stepS 194 (.plain rfl (.loadWV 23 (ix pp rows) 0 5 (ds := [_, _, _, _, _]) rfl (.of rfl) rfl Own.view rfl (List.getElem?_set_self hlt) rfl rfl T.ag97)) rfl rfl ?_
                        refine TrL.storeW 30 (vs := [_, _, _, _, _]) rfl rfl rfl (.of rfl) (.of rfl) rfl rfl T.sz97 rfl rfl ?_
                        refine TrL.nil ?_
                        refine Fin.keepG (Γ' := [(0, _), (6, _), (7, _), (8, _), (9, _), (20, _), (21, _), (22, _), (23, _), (24, _), (25, _), (35, _), (36, _), (37, _)]) (.same rfl (.same rfl (.same rfl (.same rfl (.same rfl (.same rfl (.same rfl (.same rfl (.same rfl (.same rfl (.same rfl (.same rfl (.same rfl (.same rfl .nil)))))))))))))) ?_
                        refine Fin.blockNormal ?_
                        exact Fin.reach ((vi, vm, 0, setU x (h.2.2.2.2.1 % 16), [])) (by simp) (.same rfl (.cons rfl (fun F L w h => by exact h) (.same rfl (.cons rfl (fun F L w h => by unfold renewR; rw [hgx]; exact h) (.cons rfl (fun F L w h => by unfold renewV at h; rw [if_pos hlt, hgx] at h; exact h) (.same rfl (.same rfl (.same rfl (.same rfl (.same rfl .nil)))))))))) (.eq rfl (by first | rfl | (congr 1; first | done | omega | (push_cast; omega) | (push_cast; rfl))) (.cons rfl (fun _ _ h => L.lst_nil' h) (.cons rfl (fun _ _ h => L.lst_nil' h) (.eq rfl (by rw [errF_zero.2 hlt]) (.eq rfl (by rw [if_neg (by omega)]) (.same rfl (.same rfl (.same rfl (.same rfl (.same rfl (.same rfl (.same rfl (.same rfl (.same rfl .nil))))))))))))))
                      · try simp only [decide_eq_true_eq, decide_eq_false_iff_not, beq_iff_eq, beq_eq_false_iff_ne, bne_iff_ne, bne_eq_false_iff_eq, Bool.and_eq_true, Bool.and_eq_false_iff, Bool.or_eq_true, Bool.or_eq_false_iff, Bool.not_eq_true', Bool.not_eq_false', gt_iff_lt, ge_iff_le, Int.not_lt, Int.not_le, ne_eq, Int.natCast_nonneg, true_and, and_true, Decidable.not_not, not_true_eq_false, not_false_eq_true] at hb10
                        have hnl : ¬ ix pp rows < rows.length := fun h' => by have := atI_pos.2 h'; omega
                        refine Tr.skip ?_
                        refine Fin.blockNormal ?_
                        exact Fin.reach ((vi, vm, (if h.2.2.2.2.2 = true then 260 else 220), zL, [])) (by simp) (.same rfl (.cons rfl (fun F L w h => by exact h) (.same rfl (.cons rfl (fun F L w h => by rw [renewR_not hnl]; exact h) (.cons rfl (fun F L w h => by rw [renewV_not hnl] at h; exact h) (.same rfl (.same rfl (.same rfl (.same rfl (.same rfl .nil)))))))))) (.eq rfl (by first | rfl | (congr 1; first | done | omega | (push_cast; omega) | (push_cast; rfl))) (.cons rfl (fun _ _ h => L.lst_nil' h) (.cons rfl (fun _ _ h => L.lst_nil' h) (.eq rfl (by rw [errF_not hnl]) (.eq rfl (by rw [if_pos (by omega), hcu]) (.same rfl (.same rfl (.same rfl (.same rfl (.same rfl (.same rfl (.same rfl (.same rfl (.same rfl .nil))))))))))))))
                    · try simp only [decide_eq_true_eq, decide_eq_false_iff_not, beq_iff_eq, beq_eq_false_iff_ne, bne_iff_ne, bne_eq_false_iff_eq, Bool.and_eq_true, Bool.and_eq_false_iff, Bool.or_eq_true, Bool.or_eq_false_iff, Bool.not_eq_true', Bool.not_eq_false', gt_iff_lt, ge_iff_le, Int.not_lt, Int.not_le, ne_eq, Int.natCast_nonneg, true_and, and_true, Decidable.not_not, not_true_eq_false, not_false_eq_true] at hb9
                      refine Tr.seq ?_
                      refine Tr.region ?_
                      refine TrL.stepS 196 (.plain rfl (.eql rfl (.of rfl) (.of rfl))) rfl rfl ?_
                      refine TrL.stepS 195 (.plain rfl (.assign rfl (.of rfl))) rfl rfl ?_
                      refine TrL.nil ?_
                      refine Fin.keepG (Γ' := [(0, _), (6, _), (7, _), (8, _), (9, _), (11, _), (12, _), (13, _), (14, _), (16, _), (20, _), (21, _), (22, _), (23, _), (24, _), (25, _), (35, _), (36, _), (37, _), (108, _), (195, _)]) (.same rfl (.same rfl (.same rfl (.same rfl (.same rfl (.same rfl (.same rfl (.same rfl (.same rfl (.same rfl (.same rfl (.same rfl (.same rfl (.same rfl (.same rfl (.same rfl (.same rfl (.same rfl (.same rfl (.same rfl (.same rfl .nil))))))))))))))))))))) ?_
                      refine Fin.next ?_
                      refine Tr.cond rfl (fun hb11 => ?_) (fun hb11 => ?_)
                      · try simp only [decide_eq_true_eq, decide_eq_false_iff_not, beq_iff_eq, beq_eq_false_iff_ne, bne_iff_ne, bne_eq_false_iff_eq, Bool.and_eq_true, Bool.and_eq_false_iff, Bool.or_eq_true, Bool.or_eq_false_iff, Bool.not_eq_true', Bool.not_eq_false', gt_iff_lt, ge_iff_le, Int.not_lt, Int.not_le, ne_eq, Int.natCast_nonneg, true_and, and_true, Decidable.not_not, not_true_eq_false, not_false_eq_true] at hb11
                        have hcu : curH h = h.2.2.2.2.2 := by unfold curH; rw [show (h.1 % 7 == 4) = false by simp; omega, Bool.or_false]
                        have hp2 : hasP (h.2.2.1 % 12) (h.2.1 % 4) h.2.2.2.2.2 = pp := by rw [hpp, hcu]
                        obtain ⟨rfl, rfl⟩ : rows.eraseIdx (ix (hasP (h.2.2.1 % 12) (h.2.1 % 4) h.2.2.2.2.2) rows) = r2 ∧ g = g2 := by
                          have hs' := hs
                          unfold stepH at hs'
                          rw [if_neg (show ¬ h.1 % 7 = 0 by omega), if_neg (show ¬ h.1 % 7 = 1 by omega), if_neg (show ¬ h.1 % 7 = 2 by omega), if_pos hb11] at hs'
                          exact Prod.mk.inj hs'
                        refine Tr.seq ?_
                        refine Tr.region ?_
                        refine TrL.stepS 197 (.plain rfl (.move rfl (.of rfl))) rfl rfl ?_
                        refine TrL.stepS 198 (.plain rfl (.loadB 25 rfl (.of rfl) rfl rfl rfl T.sc3)) rfl rfl ?_
                        refine TrL.stepS 199 (.plain rfl (.loadB 26 rfl (.of rfl) rfl rfl rfl T.sc55)) rfl rfl ?_
                        refine TrL.stepS 200 (.plain rfl (.fieldP rfl (.of rfl) T.fl106_5)) rfl rfl ?_
                        refine TrL.stepS 201 (.plain rfl (.loadB 24 rfl (.of rfl) rfl rfl rfl T.sc4)) rfl rfl ?_
                        refine TrL.callG [] [20, 21] [20, 21] rfl rfl 202 rfl rfl (F62 b vi (max 0 most) g rows (by omega) (h.2.1 % 4) (h.2.2.1 % 12) h.2.2.2.2.2) (.cons (.of rfl) (.cons (.of rfl) (.cons (.of rfl) (.cons (.of rfl) .nil)))) (.same rfl (.same rfl .nil)) rfl rfl (fun _ => rfl) fun v2 => ?_
                        refine TrL.stepS 24 (.plain rfl (.assign rfl (.of rfl))) rfl rfl ?_
                        refine TrL.nil ?_
                        rw [hp2]
                        refine Fin.keepG (Γ' := [(0, _), (6, _), (7, _), (8, _), (9, _), (13, _), (16, _), (20, _), (21, _), (22, _), (23, _), (24, _), (25, _), (35, _), (36, _), (37, _)]) (.same rfl (.same rfl (.same rfl (.same rfl (.same rfl (.same rfl (.same rfl (.same rfl (.same rfl (.same rfl (.same rfl (.same rfl (.same rfl (.same rfl (.same rfl (.same rfl .nil)))))))))))))))) ?_
                        refine Fin.next ?_
                        refine Tr.seq ?_
                        refine Tr.region ?_
                        refine TrL.stepS 203 (.plain rfl (.move rfl (.of rfl))) rfl rfl ?_
                        refine TrL.stepS 204 (.plain rfl (.geq rfl (.of rfl) (.of rfl))) rfl rfl ?_
                        refine TrL.nil ?_
                        refine Fin.keepG (Γ' := [(0, _), (6, _), (7, _), (8, _), (9, _), (13, _), (20, _), (21, _), (22, _), (23, _), (24, _), (25, _), (35, _), (36, _), (37, _), (204, _)]) (.same rfl (.same rfl (.same rfl (.same rfl (.same rfl (.same rfl (.same rfl (.same rfl (.same rfl (.same rfl (.same rfl (.same rfl (.same rfl (.same rfl (.same rfl (.same rfl .nil)))))))))))))))) ?_
                        refine Fin.next ?_
                        refine Tr.cond rfl (fun hb12 => ?_) (fun hb12 => ?_)
                        · try simp only [decide_eq_true_eq, decide_eq_false_iff_not, beq_iff_eq, beq_eq_false_iff_ne, bne_iff_ne, bne_eq_false_iff_eq, Bool.and_eq_true, Bool.and_eq_false_iff, Bool.or_eq_true, Bool.or_eq_false_iff, Bool.not_eq_true', Bool.not_eq_false', gt_iff_lt, ge_iff_le, Int.not_lt, Int.not_le, ne_eq, Int.natCast_nonneg, true_and, and_true, Decidable.not_not, not_true_eq_false, not_false_eq_true] at hb12
                          have hlt := atI_pos.1 hb12
                          have hat := atI_here hlt
                          obtain ⟨x, hx, hpx⟩ := ix_get hlt
                          have hgx := getD_of (d := zL) hx
                          refine Tr.region ?_
                          refine TrL.stepS 206 (.plain rfl (.move rfl (.of rfl))) rfl rfl ?_
                          refine TrL.stepS 207 (.plain rfl (.func0 rfl (.cons (.of rfl) .nil))) rfl rfl ?_
                          refine TrL.callGv (first := []) (caps := [_]) [26, 22, 23] [] [33] rfl rfl 208 rfl rfl (.of rfl) (F61 (fun x => x.1 == (h.2.2.1 % 12)) 63 (.pointer (some ⟨b13, 0, none⟩)) _ (fun x => F63 b13 (h.2.2.1 % 12) x) b22 vm rows (by omega)) (.cons (.of rfl) .nil) (.same rfl (.same rfl (.cons rfl L.Own.view .nil))) rfl rfl (fun _ => rfl) fun v3 => ?_
                          refine TrL.stepS 205 (.plain rfl (.move rfl (.of rfl))) rfl rfl ?_
                          refine TrL.stepS 209 (.plain rfl (.extract rfl (.of rfl) rfl)) rfl rfl ?_
                          refine TrL.stepS 210 (.plain rfl (.extract rfl (.of rfl) rfl)) rfl rfl ?_
                          refine TrL.memP 33 rfl rfl own_form fun hf => ?_
                          refine TrL.storeR1 22 rfl rfl rfl (.of rfl) (.of rfl) rfl rfl (L.h1sl hf) T.sz103 rfl ?_
                          refine TrL.nil ?_
                          refine Fin.keepG (Γ' := [(0, _), (6, _), (7, _), (8, _), (9, _), (20, _), (21, _), (22, _), (23, _), (24, _), (25, _), (35, _), (36, _), (37, _)]) (.same rfl (.same rfl (.same rfl (.same rfl (.same rfl (.same rfl (.same rfl (.same rfl (.same rfl (.same rfl (.same rfl (.same rfl (.same rfl (.same rfl .nil)))))))))))))) ?_
                          refine Fin.swap 33 23 rfl rfl rfl rfl rfl ?_
                          refine Fin.blockNormal ?_
                          exact Fin.reach ((v2, v3, 0, zL, [])) (by simp) (.same rfl (.cons rfl (fun F L w h => by exact h) (.same rfl (.cons rfl (fun F L w h => by rw [hpp, ← filter_id hinv.pw (by rw [← hpp]; exact hlt)]; exact h) (.same rfl (.same rfl (.same rfl (.same rfl (.same rfl (.same rfl .nil)))))))))) (.eq rfl (by first | rfl | (congr 1; first | done | omega | (push_cast; omega) | (push_cast; rfl))) (.cons rfl (fun _ _ h => L.lst_nil' h) (.cons rfl (fun _ _ h => L.lst_nil' h) (.eq rfl (by rw [errF_zero.2 hlt]) (.eq rfl (by rw [if_neg (by omega)]) (.same rfl (.same rfl (.same rfl (.same rfl (.same rfl (.same rfl (.same rfl (.same rfl (.same rfl .nil))))))))))))))
                        · try simp only [decide_eq_true_eq, decide_eq_false_iff_not, beq_iff_eq, beq_eq_false_iff_ne, bne_iff_ne, bne_eq_false_iff_eq, Bool.and_eq_true, Bool.and_eq_false_iff, Bool.or_eq_true, Bool.or_eq_false_iff, Bool.not_eq_true', Bool.not_eq_false', gt_iff_lt, ge_iff_le, Int.not_lt, Int.not_le, ne_eq, Int.natCast_nonneg, true_and, and_true, Decidable.not_not, not_true_eq_false, not_false_eq_true] at hb12
                          have hnl : ¬ ix pp rows < rows.length := fun h' => by have := atI_pos.2 h'; omega
                          refine Tr.skip ?_
                          refine Fin.blockNormal ?_
                          exact Fin.reach ((v2, vm, (if h.2.2.2.2.2 = true then 260 else 220), zL, [])) (by simp) (.same rfl (.cons rfl (fun F L w h => by exact h) (.same rfl (.cons rfl (fun F L w h => by rw [List.eraseIdx_of_length_le (by omega)]; exact h) (.same rfl (.same rfl (.same rfl (.same rfl (.same rfl (.same rfl .nil)))))))))) (.eq rfl (by first | rfl | (congr 1; first | done | omega | (push_cast; omega) | (push_cast; rfl))) (.cons rfl (fun _ _ h => L.lst_nil' h) (.cons rfl (fun _ _ h => L.lst_nil' h) (.eq rfl (by rw [errF_not hnl]) (.eq rfl (by rw [if_pos (by omega), hcu]) (.same rfl (.same rfl (.same rfl (.same rfl (.same rfl (.same rfl (.same rfl (.same rfl (.same rfl .nil))))))))))))))
                      · try simp only [decide_eq_true_eq, decide_eq_false_iff_not, beq_iff_eq, beq_eq_false_iff_ne, bne_iff_ne, bne_eq_false_iff_eq, Bool.and_eq_true, Bool.and_eq_false_iff, Bool.or_eq_true, Bool.or_eq_false_iff, Bool.not_eq_true', Bool.not_eq_false', gt_iff_lt, ge_iff_le, Int.not_lt, Int.not_le, ne_eq, Int.natCast_nonneg, true_and, and_true, Decidable.not_not, not_true_eq_false, not_false_eq_true] at hb11
                        refine Tr.seq ?_
                        refine Tr.region ?_
                        refine TrL.stepS 212 (.plain rfl (.eql rfl (.of rfl) (.of rfl))) rfl rfl ?_
                        refine TrL.stepS 211 (.plain rfl (.assign rfl (.of rfl))) rfl rfl ?_
                        refine TrL.nil ?_
                        refine Fin.keepG (Γ' := [(0, _), (6, _), (7, _), (8, _), (9, _), (12, _), (13, _), (14, _), (16, _), (20, _), (21, _), (22, _), (23, _), (24, _), (25, _), (35, _), (36, _), (37, _), (108, _), (211, _)]) (.same rfl (.same rfl (.same rfl (.same rfl (.same rfl (.same rfl (.same rfl (.same rfl (.same rfl (.same rfl (.same rfl (.same rfl (.same rfl (.same rfl (.same rfl (.same rfl (.same rfl (.same rfl (.same rfl (.same rfl .nil)))))))))))))))))))) ?_
                        refine Fin.next ?_
                        refine Tr.cond rfl (fun hb13 => ?_) (fun hb13 => ?_)
                        · try simp only [decide_eq_true_eq, decide_eq_false_iff_not, beq_iff_eq, beq_eq_false_iff_ne, bne_iff_ne, bne_eq_false_iff_eq, Bool.and_eq_true, Bool.and_eq_false_iff, Bool.or_eq_true, Bool.or_eq_false_iff, Bool.not_eq_true', Bool.not_eq_false', gt_iff_lt, ge_iff_le, Int.not_lt, Int.not_le, ne_eq, Int.natCast_nonneg, true_and, and_true, Decidable.not_not, not_true_eq_false, not_false_eq_true] at hb13
                          have hcu : curH h = true := by unfold curH; rw [show (h.1 % 7 == 4) = true by simp; omega, Bool.or_true]
                          have hp2 : hasP (h.2.2.1 % 12) (h.2.1 % 4) true = pp := by rw [hpp, hcu]
                          obtain ⟨rfl, rfl⟩ : moveR (hasP (h.2.2.1 % 12) (h.2.1 % 4) true) rows (h.2.2.2.1 % 16) = r2 ∧ g = g2 := by
                            have hs' := hs
                            unfold stepH at hs'
                            rw [if_neg (show ¬ h.1 % 7 = 0 by omega), if_neg (show ¬ h.1 % 7 = 1 by omega), if_neg (show ¬ h.1 % 7 = 2 by omega), if_neg (show ¬ h.1 % 7 = 3 by omega), if_pos hb13] at hs'
                            exact Prod.mk.inj hs'
                          have hxl : decide (atI pp rows ≥ 0) = true → ix pp rows < rows.length := fun hg => atI_pos.1 (by simpa using hg)
                          have hxg : decide (atI pp rows ≥ 0) = true → rows[ix pp rows]? = some (rows.getD (ix pp rows) zL) := fun hg => by rw [List.getD_eq_getElem?_getD, List.getElem?_eq_getElem (hxl hg)]; rfl
                          refine Tr.seq ?_
                          refine Tr.region ?_
                          refine TrL.stepS 214 (.plain rfl (.move rfl (.of rfl))) rfl rfl ?_
                          refine TrL.stepS 215 (.plain rfl (.loadB 25 rfl (.of rfl) rfl rfl rfl T.sc3)) rfl rfl ?_
                          refine TrL.stepS 216 (.plain rfl (.loadB 26 rfl (.of rfl) rfl rfl rfl T.sc55)) rfl rfl ?_
                          refine TrL.stepS 217 (.plain rfl (.loadB 27 rfl (.of rfl) rfl rfl rfl T.sc55)) rfl rfl ?_
                          refine TrL.callG [] [20, 21] [20, 21] rfl rfl 218 rfl rfl (F58 b vi (max 0 most) g rows (by omega) (h.2.1 % 4) (h.2.2.1 % 12) (h.2.2.2.1 % 16)) (.cons (.of rfl) (.cons (.of rfl) (.cons (.of rfl) (.cons (.of rfl) .nil)))) (.same rfl (.same rfl .nil)) rfl rfl (fun _ => rfl) fun _ => ?_
                          refine TrL.stepS 213 (.plain rfl (.move rfl (.of rfl))) rfl rfl ?_
                          refine TrL.stepS 219 (.plain rfl (.extract rfl (.of rfl) rfl)) rfl rfl ?_
                          refine TrL.stepS 220 (.plain rfl (.extract rfl (.of rfl) rfl)) rfl rfl ?_
                          refine TrL.storeW 29 (vs := [_, _, _, _, _]) rfl rfl rfl (.of rfl) (.of rfl) rfl rfl T.sz97 rfl rfl ?_
                          refine TrL.stepS 24 (.plain rfl (.assign rfl (.of rfl))) rfl rfl ?_
                          refine TrL.nil ?_
                          rw [hp2]
                          refine Fin.keepG (Γ' := [(0, _), (6, _), (7, _), (8, _), (9, _), (14, _), (16, _), (20, _), (21, _), (22, _), (23, _), (24, _), (25, _), (35, _), (36, _), (37, _)]) (.same rfl (.same rfl (.same rfl (.same rfl (.same rfl (.same rfl (.same rfl (.same rfl (.same rfl (.same rfl (.same rfl (.same rfl (.same rfl (.same rfl (.same rfl (.same rfl .nil)))))))))))))))) ?_
                          refine Fin.next ?_
                          refine Tr.seq ?_
                          refine Tr.regionK T.mixed (by kernel_rfl) (by kernel_rfl) ?_
                          refine ChainK.consS 221 (.plain rfl (.move rfl (.of rfl))) rfl ?_
                          refine ChainK.consS 222 (.plain rfl (.geq rfl (.of rfl) (.of rfl))) rfl ?_
                          refine ChainK.consS 223 (.plain rfl (.move rfl (.of rfl))) rfl ?_
                          refine ChainK.consS 224 (.guarded rfl rfl rfl fun hg => .loadB 27 rfl (.of rfl) rfl rfl rfl T.sc55) rfl ?_
                          refine ChainK.consS 225 (.guarded rfl rfl rfl fun hg => .loadR 22 rfl (.of rfl) rfl rfl rfl T.sc103) rfl ?_
                          refine ChainK.consS 226 (.guarded rfl rfl rfl fun hg => .move rfl (.of rfl)) rfl ?_
                          refine ChainK.consS 227 (.guarded rfl rfl rfl fun hg => .indexN 23 (ix pp rows) rfl (.cond rfl hg) (.cond rfl hg) rfl Own.view rfl Try.underlying103 T.sz97 (by rw [atI_here (hxl hg)]) (hxg hg)) rfl ?_
                          refine ChainK.consS 228 (.guarded rfl rfl rfl fun hg => .fieldW 23 rfl (.cond rfl hg) rfl Own.view rfl (L.hz_pos (hxg hg)) T.fl97_2) rfl ?_
                          refine ChainK.consS 229 (.guarded rfl rfl rfl fun hg => .loadW 23 (ix pp rows) 2 rfl (.cond rfl hg) rfl Own.view rfl (hxg hg) rfl T.sc55) rfl ?_
                          refine ChainK.consS 230 (.guarded rfl rfl rfl fun hg => .lss rfl (.cond rfl hg) (.cond rfl hg)) rfl ?_
                          refine ChainK.consS 231 (.plain rfl (.and rfl (.of rfl) (.cond rfl fun h => h))) rfl ?_
                          refine ChainK.nil ?_
                          refine Fin.keepG (Γ' := [(0, _), (6, _), (7, _), (8, _), (9, _), (14, _), (16, _), (20, _), (21, _), (22, _), (23, _), (24, _), (25, _), (35, _), (36, _), (37, _), (231, _)]) (.same rfl (.same rfl (.same rfl (.same rfl (.same rfl (.same rfl (.same rfl (.same rfl (.same rfl (.same rfl (.same rfl (.same rfl (.same rfl (.same rfl (.same rfl (.same rfl (.same rfl .nil))))))))))))))))) ?_
                          refine Fin.next ?_
                          refine Tr.cond rfl (fun hb14 => ?_) (fun hb14 => ?_)
                          · try simp only [decide_eq_true_eq, decide_eq_false_iff_not, beq_iff_eq, beq_eq_false_iff_ne, bne_iff_ne, bne_eq_false_iff_eq, Bool.and_eq_true, Bool.and_eq_false_iff, Bool.or_eq_true, Bool.or_eq_false_iff, Bool.not_eq_true', Bool.not_eq_false', gt_iff_lt, ge_iff_le, Int.not_lt, Int.not_le, ne_eq, Int.natCast_nonneg, true_and, and_true, Decidable.not_not, not_true_eq_false, not_false_eq_true] at hb14
                            have hlt := atI_pos.1 hb14.1
                            have hme : moveE pp rows (h.2.2.2.1 % 16) = 2 := by unfold moveE; rw [if_pos hlt, if_pos hb14.2]
                            refine Tr.region ?_
                            refine TrL.stepS 25 (.plain rfl (.assign rfl (.of rfl))) rfl rfl ?_
                            refine TrL.nil ?_
                            refine Fin.keepG (Γ' := [(0, _), (6, _), (7, _), (8, _), (9, _), (20, _), (21, _), (22, _), (23, _), (24, _), (25, _), (35, _), (36, _), (37, _)]) (.same rfl (.same rfl (.same rfl (.same rfl (.same rfl (.same rfl (.same rfl (.same rfl (.same rfl (.same rfl (.same rfl (.same rfl (.same rfl (.same rfl .nil)))))))))))))) ?_
                            refine Fin.blockNormal ?_
                            exact Fin.reach ((vi, vm, 2, zL, [])) (by simp) (.same rfl (.cons rfl (fun F L w h => by exact h) (.same rfl (.cons rfl (fun F L w h => by unfold moveR; rw [hme]; exact h) (.cons rfl (fun F L w h => by unfold moveV at h; rw [hme] at h; exact h) (.same rfl (.same rfl (.same rfl (.same rfl (.same rfl .nil)))))))))) (.eq rfl (by first | rfl | (congr 1; first | done | omega | (push_cast; omega) | (push_cast; rfl))) (.cons rfl (fun _ _ h => L.lst_nil' h) (.cons rfl (fun _ _ h => L.lst_nil' h) (.eq rfl (by rw [hme]) (.eq rfl (by rfl) (.same rfl (.same rfl (.same rfl (.same rfl (.same rfl (.same rfl (.same rfl (.same rfl (.same rfl .nil))))))))))))))
                          · try simp only [decide_eq_true_eq, decide_eq_false_iff_not, beq_iff_eq, beq_eq_false_iff_ne, bne_iff_ne, bne_eq_false_iff_eq, Bool.and_eq_true, Bool.and_eq_false_iff, Bool.or_eq_true, Bool.or_eq_false_iff, Bool.not_eq_true', Bool.not_eq_false', gt_iff_lt, ge_iff_le, Int.not_lt, Int.not_le, ne_eq, Int.natCast_nonneg, true_and, and_true, Decidable.not_not, not_true_eq_false, not_false_eq_true] at hb14
                            refine Tr.seq ?_
                            refine Tr.region ?_
                            refine TrL.stepS 232 (.plain rfl (.move rfl (.of rfl))) rfl rfl ?_
                            refine TrL.stepS 233 (.plain rfl (.geq rfl (.of rfl) (.of rfl))) rfl rfl ?_
                            refine TrL.nil ?_
                            refine Fin.keepG (Γ' := [(0, _), (6, _), (7, _), (8, _), (9, _), (14, _), (16, _), (20, _), (21, _), (22, _), (23, _), (24, _), (25, _), (35, _), (36, _), (37, _), (233, _)]) (.same rfl (.same rfl (.same rfl (.same rfl (.same rfl (.same rfl (.same rfl (.same rfl (.same rfl (.same rfl (.same rfl (.same rfl (.same rfl (.same rfl (.same rfl (.same rfl (.same rfl .nil))))))))))))))))) ?_
                            refine Fin.next ?_
                            refine Tr.cond rfl (fun hb15 => ?_) (fun hb15 => ?_)
                            · try simp only [decide_eq_true_eq, decide_eq_false_iff_not, beq_iff_eq, beq_eq_false_iff_ne, bne_iff_ne, bne_eq_false_iff_eq, Bool.and_eq_true, Bool.and_eq_false_iff, Bool.or_eq_true, Bool.or_eq_false_iff, Bool.not_eq_true', Bool.not_eq_false', gt_iff_lt, ge_iff_le, Int.not_lt, Int.not_le, ne_eq, Int.natCast_nonneg, true_and, and_true, Decidable.not_not, not_true_eq_false, not_false_eq_true] at hb15
                              have hlt := atI_pos.1 hb15
                              have hat := atI_here hlt
                              obtain ⟨x, hx, hpx⟩ := ix_get hlt
                              have hgx := getD_of (d := zL) hx
                              have hme : moveE pp rows (h.2.2.2.1 % 16) = 0 := by unfold moveE; rw [if_pos hlt, if_neg (by omega)]
                              refine Tr.seq ?_
                              refine Tr.region ?_
                              refine TrL.stepS 234 (.plain rfl (.loadR 22 rfl (.of rfl) rfl rfl rfl T.sc103)) rfl rfl ?_
                              refine TrL.stepS 235 (.plain rfl (.move rfl (.of rfl))) rfl rfl ?_
                              refine TrL.stepS 236 (.plain rfl (.loadB 27 rfl (.of rfl) rfl rfl rfl T.sc55)) rfl rfl ?_
                              refine TrL.stepS 237 (.plain rfl (.indexN 23 (ix pp rows) rfl (.of rfl) (.of rfl) rfl Own.view rfl Try.underlying103 T.sz97 (by rw [hat]) (hx))) rfl rfl ?_
                              refine TrL.stepS 238 (.plain rfl (.fieldW 23 rfl (.of rfl) rfl Own.view rfl (L.hz_pos (hx)) T.fl97_2)) rfl rfl ?_
                              refine TrL.storeO 23 (ix pp rows) 2 (z' := setE x (h.2.2.2.1 % 16)) rfl rfl rfl (.of rfl) (.of rfl) (L.hR1 (L.h1is rfl rfl)) rfl rfl (hx) rfl rfl T.sz55 ?_
                              refine TrL.nil ?_
                              refine Fin.keepG (Γ' := [(0, _), (6, _), (7, _), (8, _), (9, _), (16, _), (20, _), (21, _), (22, _), (23, _), (24, _), (25, _), (35, _), (36, _), (37, _)]) (.same rfl (.same rfl (.same rfl (.same rfl (.same rfl (.same rfl (.same rfl (.same rfl (.same rfl (.same rfl (.same rfl (.same rfl (.same rfl (.same rfl (.same rfl .nil))))))))))))))) ?_
                              refine Fin.next ?_
                              refine Tr.region ?_
                              refine TrL.stepS 239 (.plain rfl (.loadR 22 rfl (.of rfl) rfl rfl rfl T.sc103)) rfl rfl ?_
                              refine TrL.stepS 240 (.plain rfl (.move rfl (.of rfl))) rfl rfl ?_
                              refine TrL.stepS 241 (.plain rfl (.indexN 23 (ix pp rows) rfl (.of rfl) (.of rfl) rfl Own.view rfl Try.underlying103 T.sz97 (by rw [hat]) (List.getElem?_set_self hlt))) rfl rfl ?_
                              refine TrL.stepS 242 (.plain rfl (.loadWV 23 (ix pp rows) 0 5 (ds := [_, _, _, _, _]) rfl (.of rfl) rfl Own.view rfl (List.getElem?_set_self hlt) rfl rfl T.ag97)) rfl rfl ?_
                              refine TrL.storeW 30 (vs := [_, _, _, _, _]) rfl rfl rfl (.of rfl) (.of rfl) rfl rfl T.sz97 rfl rfl ?_
                              refine TrL.nil ?_
                              refine Fin.keepG (Γ' := [(0, _), (6, _), (7, _), (8, _), (9, _), (20, _), (21, _), (22, _), (23, _), (24, _), (25, _), (35, _), (36, _), (37, _)]) (.same rfl (.same rfl (.same rfl (.same rfl (.same rfl (.same rfl (.same rfl (.same rfl (.same rfl (.same rfl (.same rfl (.same rfl (.same rfl (.same rfl .nil)))))))))))))) ?_
                              refine Fin.blockNormal ?_
                              exact Fin.reach ((vi, vm, 0, setE x (h.2.2.2.1 % 16), [])) (by simp) (.same rfl (.cons rfl (fun F L w h => by exact h) (.same rfl (.cons rfl (fun F L w h => by unfold moveR; rw [hme, hgx]; exact h) (.cons rfl (fun F L w h => by unfold moveV at h; rw [hme, hgx] at h; exact h) (.same rfl (.same rfl (.same rfl (.same rfl (.same rfl .nil)))))))))) (.eq rfl (by first | rfl | (congr 1; first | done | omega | (push_cast; omega) | (push_cast; rfl))) (.cons rfl (fun _ _ h => L.lst_nil' h) (.cons rfl (fun _ _ h => L.lst_nil' h) (.eq rfl (by rw [hme]) (.eq rfl (by rw [if_neg (by omega)]) (.same rfl (.same rfl (.same rfl (.same rfl (.same rfl (.same rfl (.same rfl (.same rfl (.same rfl .nil))))))))))))))
                            · try simp only [decide_eq_true_eq, decide_eq_false_iff_not, beq_iff_eq, beq_eq_false_iff_ne, bne_iff_ne, bne_eq_false_iff_eq, Bool.and_eq_true, Bool.and_eq_false_iff, Bool.or_eq_true, Bool.or_eq_false_iff, Bool.not_eq_true', Bool.not_eq_false', gt_iff_lt, ge_iff_le, Int.not_lt, Int.not_le, ne_eq, Int.natCast_nonneg, true_and, and_true, Decidable.not_not, not_true_eq_false, not_false_eq_true] at hb15
                              have hnl : ¬ ix pp rows < rows.length := fun h' => by have := atI_pos.2 h'; omega
                              have hme := moveE_not (u := (h.2.2.2.1 % 16)) hnl
                              refine Tr.skip ?_
                              refine Fin.blockNormal ?_
                              exact Fin.reach ((vi, vm, 260, zL, [])) (by simp) (.same rfl (.cons rfl (fun F L w h => by exact h) (.same rfl (.cons rfl (fun F L w h => by unfold moveR; rw [hme]; exact h) (.cons rfl (fun F L w h => by unfold moveV at h; rw [hme] at h; exact h) (.same rfl (.same rfl (.same rfl (.same rfl (.same rfl .nil)))))))))) (.eq rfl (by first | rfl | (congr 1; first | done | omega | (push_cast; omega) | (push_cast; rfl))) (.cons rfl (fun _ _ h => L.lst_nil' h) (.cons rfl (fun _ _ h => L.lst_nil' h) (.eq rfl (by rw [hme]) (.eq rfl (by rw [if_pos (by omega), hcu]; rfl) (.same rfl (.same rfl (.same rfl (.same rfl (.same rfl (.same rfl (.same rfl (.same rfl (.same rfl .nil))))))))))))))
                        · try simp only [decide_eq_true_eq, decide_eq_false_iff_not, beq_iff_eq, beq_eq_false_iff_ne, bne_iff_ne, bne_eq_false_iff_eq, Bool.and_eq_true, Bool.and_eq_false_iff, Bool.or_eq_true, Bool.or_eq_false_iff, Bool.not_eq_true', Bool.not_eq_false', gt_iff_lt, ge_iff_le, Int.not_lt, Int.not_le, ne_eq, Int.natCast_nonneg, true_and, and_true, Decidable.not_not, not_true_eq_false, not_false_eq_true] at hb13
                          refine Tr.seq ?_
                          refine Tr.region ?_
                          refine TrL.stepS 244 (.plain rfl (.eql rfl (.of rfl) (.of rfl))) rfl rfl ?_
                          refine TrL.stepS 243 (.plain rfl (.assign rfl (.of rfl))) rfl rfl ?_
                          refine TrL.nil ?_
                          refine Fin.keepG (Γ' := [(0, _), (6, _), (7, _), (8, _), (9, _), (12, _), (14, _), (20, _), (21, _), (24, _), (25, _), (35, _), (36, _), (37, _), (243, _)]) (.same rfl (.same rfl (.same rfl (.same rfl (.same rfl (.same rfl (.same rfl (.same rfl (.same rfl (.same rfl (.same rfl (.same rfl (.same rfl (.same rfl (.same rfl .nil))))))))))))))) ?_
                          refine Fin.next ?_
                          refine Tr.cond rfl (fun hb16 => ?_) (fun hb16 => ?_)
                          · try simp only [decide_eq_true_eq, decide_eq_false_iff_not, beq_iff_eq, beq_eq_false_iff_ne, bne_iff_ne, bne_eq_false_iff_eq, Bool.and_eq_true, Bool.and_eq_false_iff, Bool.or_eq_true, Bool.or_eq_false_iff, Bool.not_eq_true', Bool.not_eq_false', gt_iff_lt, ge_iff_le, Int.not_lt, Int.not_le, ne_eq, Int.natCast_nonneg, true_and, and_true, Decidable.not_not, not_true_eq_false, not_false_eq_true] at hb16
                            obtain ⟨rfl, rfl⟩ : (rows.filter fun x => !(fun x : Ls => decide (x.2.2.2.1 ≤ (h.2.2.2.1 % 16))) x) = r2 ∧ g = g2 := by
                              have hs' := hs
                              unfold stepH at hs'
                              rw [if_neg (show ¬ h.1 % 7 = 0 by omega), if_neg (show ¬ h.1 % 7 = 1 by omega), if_neg (show ¬ h.1 % 7 = 2 by omega), if_neg (show ¬ h.1 % 7 = 3 by omega), if_neg (show ¬ h.1 % 7 = 4 by omega), if_pos hb16] at hs'
                              exact Prod.mk.inj hs'
                            refine Tr.seq ?_
                            refine Tr.region ?_
                            refine TrL.stepS 245 (.plain rfl (.move rfl (.of rfl))) rfl rfl ?_
                            refine TrL.stepS 246 (.plain rfl (.loadB 27 rfl (.of rfl) rfl rfl rfl T.sc55)) rfl rfl ?_
                            refine TrL.callG [] [20, 21] [20, 21] rfl rfl 247 rfl rfl (F60 b vi (max 0 most) g rows (by omega) (h.2.2.2.1 % 16)) (.cons (.of rfl) (.cons (.of rfl) .nil)) (.same rfl (.same rfl .nil)) rfl rfl (fun _ => rfl) fun v2 => ?_
                            refine TrL.stepS 22 (.plain rfl (.assign rfl (.of rfl))) rfl rfl ?_
                            refine TrL.nil ?_
                            refine Fin.keepG (Γ' := [(0, _), (6, _), (7, _), (8, _), (9, _), (14, _), (20, _), (21, _), (22, _), (24, _), (25, _), (35, _), (36, _), (37, _)]) (.same rfl (.same rfl (.same rfl (.same rfl (.same rfl (.same rfl (.same rfl (.same rfl (.same rfl (.same rfl (.same rfl (.same rfl (.same rfl (.same rfl .nil)))))))))))))) ?_
                            refine Fin.next ?_
                            refine Tr.region ?_
                            refine TrL.stepS 249 (.plain rfl (.move rfl (.of rfl))) rfl rfl ?_
                            refine TrL.stepS 250 (.plain rfl (.func0 rfl (.cons (.of rfl) .nil))) rfl rfl ?_
                            refine TrL.callGv (first := []) (caps := [_]) [27, 22, 23] [] [33] rfl rfl 251 rfl rfl (.of rfl) (F61 (fun x => decide (x.2.2.2.1 ≤ (h.2.2.2.1 % 16))) 64 (.pointer (some ⟨b14, 0, none⟩)) _ (fun x => F64 b14 (h.2.2.2.1 % 16) x) b22 vm rows (by omega)) (.cons (.of rfl) .nil) (.same rfl (.same rfl (.cons rfl L.Own.view .nil))) rfl rfl (fun _ => rfl) fun v3 => ?_
                            refine TrL.stepS 248 (.plain rfl (.move rfl (.of rfl))) rfl rfl ?_
                            refine TrL.stepS 252 (.plain rfl (.extract rfl (.of rfl) rfl)) rfl rfl ?_
                            refine TrL.stepS 253 (.plain rfl (.extract rfl (.of rfl) rfl)) rfl rfl ?_
                            refine TrL.memP 33 rfl rfl own_form fun hf => ?_
                            refine TrL.storeR1 22 rfl rfl rfl (.of rfl) (.of rfl) rfl rfl (L.h1sl hf) T.sz103 rfl ?_
                            refine TrL.stepS 23 (.plain rfl (.assign rfl (.of rfl))) rfl rfl ?_
                            refine TrL.nil ?_
                            refine Fin.keepG (Γ' := [(0, _), (6, _), (7, _), (8, _), (9, _), (20, _), (21, _), (22, _), (23, _), (24, _), (25, _), (35, _), (36, _), (37, _)]) (.same rfl (.same rfl (.same rfl (.same rfl (.same rfl (.same rfl (.same rfl (.same rfl (.same rfl (.same rfl (.same rfl (.same rfl (.same rfl (.same rfl .nil)))))))))))))) ?_
                            refine Fin.swap 33 23 rfl rfl rfl rfl rfl ?_
                            refine Fin.blockNormal ?_
                            exact Fin.reach ((v2, v3, 0, zL, (rows.filter fun x => decide (x.2.2.2.1 ≤ (h.2.2.2.1 % 16))))) (Nat.le_trans (List.length_filter_le _ _) (by omega)) (.same rfl (.same rfl (.same rfl (.same rfl (.same rfl (.same rfl (.same rfl (.same rfl (.same rfl (.same rfl .nil)))))))))) (.eq rfl (by first | rfl | (congr 1; first | done | omega | (push_cast; omega) | (push_cast; rfl))) (.same rfl (.same rfl (.eq rfl (by rfl) (.eq rfl (by rw [if_neg (by omega)]) (.same rfl (.same rfl (.same rfl (.same rfl (.same rfl (.same rfl (.same rfl (.same rfl (.same rfl .nil))))))))))))))
                          · try simp only [decide_eq_true_eq, decide_eq_false_iff_not, beq_iff_eq, beq_eq_false_iff_ne, bne_iff_ne, bne_eq_false_iff_eq, Bool.and_eq_true, Bool.and_eq_false_iff, Bool.or_eq_true, Bool.or_eq_false_iff, Bool.not_eq_true', Bool.not_eq_false', gt_iff_lt, ge_iff_le, Int.not_lt, Int.not_le, ne_eq, Int.natCast_nonneg, true_and, and_true, Decidable.not_not, not_true_eq_false, not_false_eq_true] at hb16
                            obtain ⟨rfl, rfl⟩ : (rows.filter fun x => !(fun x : Ls => x.2.1 == (h.2.1 % 4)) x) = r2 ∧ g = g2 := by
                              have hs' := hs
                              unfold stepH at hs'
                              rw [if_neg (show ¬ h.1 % 7 = 0 by omega), if_neg (show ¬ h.1 % 7 = 1 by omega), if_neg (show ¬ h.1 % 7 = 2 by omega), if_neg (show ¬ h.1 % 7 = 3 by omega), if_neg (show ¬ h.1 % 7 = 4 by omega), if_neg (show ¬ h.1 % 7 = 5 by omega)] at hs'
                              exact Prod.mk.inj hs'
                            refine Tr.seq ?_
                            refine Tr.region ?_
                            refine TrL.stepS 109 (.plain rfl (.move rfl (.of rfl))) rfl rfl ?_
                            refine TrL.stepS 110 (.plain rfl (.loadB 25 rfl (.of rfl) rfl rfl rfl T.sc3)) rfl rfl ?_
                            refine TrL.callG [] [20, 21] [20, 21] rfl rfl 111 rfl rfl (F65 b vi (max 0 most) g rows (by omega) (h.2.1 % 4)) (.cons (.of rfl) (.cons (.of rfl) .nil)) (.same rfl (.same rfl .nil)) rfl rfl (fun _ => rfl) fun v2 => ?_
                            refine TrL.stepS 22 (.plain rfl (.assign rfl (.of rfl))) rfl rfl ?_
                            refine TrL.nil ?_
                            refine Fin.keepG (Γ' := [(0, _), (6, _), (7, _), (8, _), (9, _), (12, _), (20, _), (21, _), (22, _), (24, _), (25, _), (35, _), (36, _), (37, _)]) (.same rfl (.same rfl (.same rfl (.same rfl (.same rfl (.same rfl (.same rfl (.same rfl (.same rfl (.same rfl (.same rfl (.same rfl (.same rfl (.same rfl .nil)))))))))))))) ?_
                            refine Fin.next ?_
                            refine Tr.region ?_
                            refine TrL.stepS 113 (.plain rfl (.move rfl (.of rfl))) rfl rfl ?_
                            refine TrL.stepS 114 (.plain rfl (.func0 rfl (.cons (.of rfl) .nil))) rfl rfl ?_
                            refine TrL.callGv (first := []) (caps := [_]) [25, 22, 23] [] [33] rfl rfl 115 rfl rfl (.of rfl) (F61 (fun x => x.2.1 == (h.2.1 % 4)) 66 (.pointer (some ⟨b12, 0, none⟩)) _ (fun x => F66 b12 (h.2.1 % 4) x) b22 vm rows (by omega)) (.cons (.of rfl) .nil) (.same rfl (.same rfl (.cons rfl L.Own.view .nil))) rfl rfl (fun _ => rfl) fun v3 => ?_
                            refine TrL.stepS 112 (.plain rfl (.move rfl (.of rfl))) rfl rfl ?_
                            refine TrL.stepS 116 (.plain rfl (.extract rfl (.of rfl) rfl)) rfl rfl ?_
                            refine TrL.stepS 117 (.plain rfl (.extract rfl (.of rfl) rfl)) rfl rfl ?_
                            refine TrL.memP 33 rfl rfl own_form fun hf => ?_
                            refine TrL.storeR1 22 rfl rfl rfl (.of rfl) (.of rfl) rfl rfl (L.h1sl hf) T.sz103 rfl ?_
                            refine TrL.stepS 23 (.plain rfl (.assign rfl (.of rfl))) rfl rfl ?_
                            refine TrL.nil ?_
                            refine Fin.keepG (Γ' := [(0, _), (6, _), (7, _), (8, _), (9, _), (20, _), (21, _), (22, _), (23, _), (24, _), (25, _), (35, _), (36, _), (37, _)]) (.same rfl (.same rfl (.same rfl (.same rfl (.same rfl (.same rfl (.same rfl (.same rfl (.same rfl (.same rfl (.same rfl (.same rfl (.same rfl (.same rfl .nil)))))))))))))) ?_
                            refine Fin.swap 33 23 rfl rfl rfl rfl rfl ?_
                            refine Fin.blockNormal ?_
                            exact Fin.reach ((v2, v3, 0, zL, (rows.filter fun x => x.2.1 == (h.2.1 % 4)))) (Nat.le_trans (List.length_filter_le _ _) (by omega)) (.same rfl (.same rfl (.same rfl (.same rfl (.same rfl (.same rfl (.same rfl (.same rfl (.same rfl (.same rfl .nil)))))))))) (.eq rfl (by first | rfl | (congr 1; first | done | omega | (push_cast; omega) | (push_cast; rfl))) (.same rfl (.same rfl (.eq rfl (by rfl) (.eq rfl (by rw [if_neg (by omega)]) (.same rfl (.same rfl (.same rfl (.same rfl (.same rfl (.same rfl (.same rfl (.same rfl (.same rfl .nil))))))))))))))
              case jk56 =>
                intro p hds
                obtain ⟨vi', vm', e, z, ds⟩ := p
                dsimp only at hds ⊢
                refine Tr.seq ?_
                refine Tr.seq ?_
                refine Tr.regionK T.mixed (by kernel_rfl) (by kernel_rfl) ?_
                refine ChainK.consS 254 (.plain rfl (.move rfl (.of rfl))) rfl ?_
                refine ChainK.consS 255 (.plain rfl (.move rfl (.of rfl))) rfl ?_
                refine ChainK.consS 256 (.plain rfl (.neq rfl (.of rfl) (.of rfl))) rfl ?_
                refine ChainK.consS 257 (.plain rfl (.move rfl (.of rfl))) rfl ?_
                refine ChainK.consS 258 (.guarded rfl rfl rfl fun hg => .loadBN 29 (k := 5) (ds := [_, _, _, _, _]) rfl (.of rfl) rfl rfl rfl T.ag97 rfl) rfl ?_
                refine ChainK.consS 259 (.guarded rfl rfl rfl fun hg => .loadBN 30 (k := 5) (ds := [_, _, _, _, _]) rfl (.of rfl) rfl rfl rfl T.ag97 rfl) rfl ?_
                refine ChainK.consS 260 (.guarded rfl rfl rfl fun hg => .neqS rfl (.cond rfl hg) (.cond rfl hg) (by kernel_rfl) (T.eq97 _ _ _ _ _ _ _ _ _ _)) rfl ?_
                refine ChainK.consS 261 (.plain rfl (.or rfl (.of rfl) (.cond rfl fun h => h))) rfl ?_
                refine ChainK.consS 262 (.plain rfl (.move rfl (.of rfl))) rfl ?_
                refine ChainK.consS 263 (.guarded rfl rfl rfl fun hg => .move rfl (.of rfl)) rfl ?_
                refine ChainK.consS 264 (.guarded rfl rfl rfl fun hg => .move rfl (.of rfl)) rfl ?_
                refine ChainK.consS 265 (.guarded rfl rfl rfl fun hg => .call rfl (F67 ds ds (by omega) (by omega)) (.cons (.cond rfl hg) (.cons (.cond rfl hg) .nil))) rfl ?_
                refine ChainK.consS 266 (.guarded rfl rfl rfl fun hg => .not rfl (.cond rfl hg)) rfl ?_
                refine ChainK.consS 267 (.plain rfl (.or rfl (.of rfl) (.cond rfl fun h => h))) rfl ?_
                refine ChainK.consS 268 (.plain rfl (.move rfl (.of rfl))) rfl ?_
                refine ChainK.consS 269 (.guarded rfl rfl rfl fun hg => .move rfl (.of rfl)) rfl ?_
                refine ChainK.consS 270 (.guarded rfl rfl rfl fun hg => .callR [20, 21] rfl (F68 b vi' (max 0 most) g2 r2 (by omega)) (.cons (.cond rfl hg) .nil) (.same rfl (.same rfl .nil)) rfl) rfl ?_
                refine ChainK.consS 271 (.guarded rfl rfl rfl fun hg => .loadR 22 rfl (.of rfl) rfl rfl rfl T.sc103) rfl ?_
                refine ChainK.consS 272 (.guarded rfl rfl rfl fun hg => .callR [23] rfl (F67b r2 r2 (by omega) (by omega) vm') (.cons (.cond rfl hg) (.cons (.cond rfl hg) .nil)) (.cons rfl L.Own.view .nil) rfl) rfl ?_
                refine ChainK.consS 273 (.guarded rfl rfl rfl fun hg => .not rfl (.cond rfl hg)) rfl ?_
                refine ChainK.consS 274 (.plain rfl (.or rfl (.of rfl) (.cond rfl fun h => h))) rfl ?_
                refine ChainK.consS 275 (.plain rfl (.move rfl (.of rfl))) rfl ?_
                refine ChainK.consS 276 (.guarded rfl rfl rfl fun hg => .move rfl (.of rfl)) rfl ?_
                refine ChainK.consS 277 (.guarded rfl rfl rfl fun hg => .callR [20, 21] rfl (F69 b vi' (max 0 most) g2 r2 (by omega)) (.cons (.cond rfl hg) .nil) (.same rfl (.same rfl .nil)) rfl) rfl ?_
                refine ChainK.consS 278 (.guarded rfl rfl rfl fun hg => .loadR 22 rfl (.of rfl) rfl rfl rfl T.sc103) rfl ?_
                refine ChainK.consS 279 (.guarded rfl rfl rfl fun hg => .lenV 23 rfl (.cond rfl hg) rfl Own.view rfl Try.underlying103) rfl ?_
                refine ChainK.consS 280 (.guarded rfl rfl rfl fun hg => .neq rfl (.cond rfl hg) (.cond rfl hg)) rfl ?_
                refine ChainK.consS 281 (.plain rfl (.or rfl (.of rfl) (.cond rfl fun h => h))) rfl ?_
                refine ChainK.nil ?_
                refine Fin.keepG (Γ' := [(0, _), (6, _), (7, _), (8, _), (9, _), (35, _), (36, _), (37, _), (281, _)]) (.same rfl (.same rfl (.same rfl (.same rfl (.same rfl (.same rfl (.same rfl (.same rfl (.same rfl .nil))))))))) ?_
                refine Fin.next ?_
                refine Tr.cond rfl (fun hb17 => ?_) (fun hb17 => ?_)
                · try simp only [decide_eq_true_eq, decide_eq_false_iff_not, beq_iff_eq, beq_eq_false_iff_ne, bne_iff_ne, bne_eq_false_iff_eq, Bool.and_eq_true, Bool.and_eq_false_iff, Bool.or_eq_true, Bool.or_eq_false_iff, Bool.not_eq_true', Bool.not_eq_false', gt_iff_lt, ge_iff_le, Int.not_lt, Int.not_le, ne_eq, Int.natCast_nonneg, true_and, and_true, Decidable.not_not, not_true_eq_false, not_false_eq_true] at hb17
                  exfalso; simp at hb17
                · try simp only [decide_eq_true_eq, decide_eq_false_iff_not, beq_iff_eq, beq_eq_false_iff_ne, bne_iff_ne, bne_eq_false_iff_eq, Bool.and_eq_true, Bool.and_eq_false_iff, Bool.or_eq_true, Bool.or_eq_false_iff, Bool.not_eq_true', Bool.not_eq_false', gt_iff_lt, ge_iff_le, Int.not_lt, Int.not_le, ne_eq, Int.natCast_nonneg, true_and, and_true, Decidable.not_not, not_true_eq_false, not_false_eq_true] at hb17
                  refine Tr.skip ?_
                  refine Fin.next ?_
                  refine Tr.seq ?_
                  refine Tr.region ?_
                  refine TrL.stepS 26 (.plain rfl (.assign rfl (.of rfl))) rfl rfl ?_
                  refine TrL.stepS 27 (.plain rfl (.assign rfl (.of rfl))) rfl rfl ?_
                  refine TrL.nil ?_
                  refine Fin.keepG (Γ' := [(0, _), (6, _), (7, _), (8, _), (9, _), (26, _), (27, _), (35, _), (36, _), (37, _)]) (.same rfl (.same rfl (.same rfl (.same rfl (.same rfl (.same rfl (.same rfl (.same rfl (.same rfl (.same rfl .nil)))))))))) ?_
                  refine Fin.next ?_
                  refine Tr.seq ?_
                  refine Tr.seq ?_
                  refine Tr.region ?_
                  refine TrL.stepS 283 (.plain rfl (.loadR 22 rfl (.of rfl) rfl rfl rfl T.sc103)) rfl rfl ?_
                  refine TrL.stepS 284 (.plain rfl (.lenV 23 rfl (.of rfl) rfl Own.view rfl Try.underlying103)) rfl rfl ?_
                  refine TrL.stepS 285 (.plain rfl (.move rfl (.of rfl))) rfl rfl ?_
                  refine TrL.nil ?_
                  refine Fin.next ?_
                  refine Tr.block ?_
                  refine Tr.loopK (γ := Nat) (Γk := [(0, _), (6, _), (7, _), (8, _), (9, _), (35, _), (36, _), (37, _), (283, _), (284, _)]) (Mk := [(24, _), (25, _), (26, _), (27, _), (20, _), (21, _), (22, _), (23, _), (29, _), (30, _)]) (.same rfl (.same rfl (.same rfl (.same rfl (.same rfl (.same rfl (.same rfl (.same rfl (.same rfl (.same rfl .nil)))))))))) (.same rfl (.same rfl (.same rfl (.same rfl (.same rfl (.same rfl (.same rfl (.same rfl (.same rfl (.same rfl .nil)))))))))) (fun j => j ≤ r2.length) (fun j => fun r => r) (fun j => fun r => (26, is (.int .u64 (if r2.take j = [] then 0 else (minL (r2.take j)).2.2.1))) :: (27, is (.bool (!decide (r2.take j = [])))) :: (285, is (.int .i64 j)) :: r) (fun j => r2.length - j) (0) ?h0_2 ?hM_2 ?hG_2 ?hl_2
                  case h0_2 => exact Nat.zero_le _
                  case hM_2 => exact (.same rfl (.same rfl (.same rfl (.same rfl (.same rfl (.same rfl (.same rfl (.same rfl (.same rfl (.same rfl .nil))))))))))
                  case hG_2 => exact (.eq rfl (by simp) (.eq rfl (by simp) (.eq rfl (by first | rfl | (congr 1; first | done | omega | (push_cast; omega) | (push_cast; rfl))) (.same rfl (.same rfl (.same rfl (.same rfl (.same rfl (.same rfl (.same rfl (.same rfl (.same rfl (.same rfl .nil)))))))))))))
                  case hl_2 =>
                    intro j hj
                    refine Tr.seq ?_
                    refine Tr.region ?_
                    refine TrL.stepS 286 (.plain rfl (.lss rfl (.of rfl) (.of rfl))) rfl rfl ?_
                    refine TrL.nil ?_
                    refine Fin.next ?_
                    refine Tr.seq ?_
                    refine Tr.cond rfl (fun hb18 => ?_) (fun hb18 => ?_)
                    · try simp only [decide_eq_true_eq, decide_eq_false_iff_not, beq_iff_eq, beq_eq_false_iff_ne, bne_iff_ne, bne_eq_false_iff_eq, Bool.and_eq_true, Bool.and_eq_false_iff, Bool.or_eq_true, Bool.or_eq_false_iff, Bool.not_eq_true', Bool.not_eq_false', gt_iff_lt, ge_iff_le, Int.not_lt, Int.not_le, ne_eq, Int.natCast_nonneg, true_and, and_true, Decidable.not_not, not_true_eq_false, not_false_eq_true] at hb18
                      obtain ⟨y, hy⟩ := ex_get (xs := r2) (i := j) (by omega)
                      have hsn : r2.take j ≠ [] → minL (r2.take (j + 1)) = minS (minL (r2.take j)) y := fun hne => by rw [take_snoc hy, minL_snoc hne]
                      have hne1 : r2.take (j + 1) ≠ [] := take_ne (by omega) (by omega)
                      refine Tr.skip ?_
                      refine Fin.next ?_
                      refine Tr.seqJK (γ := Unit) (Γk := [(0, _), (6, _), (7, _), (8, _), (9, _), (35, _), (36, _), (37, _), (283, _), (284, _), (285, _)]) (Mk := [(24, _), (25, _), (26, _), (27, _), (20, _), (21, _), (22, _), (23, _), (29, _), (30, _)]) (.same rfl (.same rfl (.same rfl (.same rfl (.same rfl (.same rfl (.same rfl (.same rfl (.same rfl (.same rfl (.same rfl .nil))))))))))) (.same rfl (.same rfl (.same rfl (.same rfl (.same rfl (.same rfl (.same rfl (.same rfl (.same rfl (.same rfl .nil)))))))))) (fun _ => True) (fun _ => fun r => r) (fun _ => fun r => (26, is (.int .u64 (if r2.take (j + 1) = [] then 0 else (minL (r2.take (j + 1))).2.2.1))) :: (27, is (.bool (!decide (r2.take (j + 1) = [])))) :: r) ?jx64 ?jk64
                      case jx64 =>
                        refine Tr.block ?_
                        refine Tr.seq ?_
                        refine Tr.region ?_
                        refine TrL.stepS 287 (.plain rfl (.indexN 23 (j) rfl (.of rfl) (.of rfl) rfl Own.view rfl Try.underlying103 T.sz97 (by omega) (hy))) rfl rfl ?_
                        refine TrL.stepS 288 (.plain rfl (.loadWV 23 (j) 0 5 (ds := [_, _, _, _, _]) rfl (.of rfl) rfl Own.view rfl (hy) rfl rfl T.ag97)) rfl rfl ?_
                        refine TrL.allocS 31 (zs := [.int .u64 0, .int .i64 0, .int .u64 0, .int .u64 0, .bool false]) rfl rfl (by kernel_rfl) 29 rfl rfl rfl fun b31 => ?_
                        refine TrL.storeW 31 (vs := [_, _, _, _, _]) rfl rfl rfl (.of rfl) (.of rfl) rfl rfl T.sz97 rfl rfl ?_
                        refine TrL.nil ?_
                        refine Fin.keepG (Γ' := [(0, _), (6, _), (7, _), (8, _), (9, _), (26, _), (27, _), (29, _), (35, _), (36, _), (37, _), (283, _), (284, _), (285, _)]) (.same rfl (.same rfl (.same rfl (.same rfl (.same rfl (.same rfl (.same rfl (.same rfl (.same rfl (.same rfl (.same rfl (.same rfl (.same rfl (.same rfl .nil)))))))))))))) ?_
                        refine Fin.next ?_
                        refine Tr.seq ?_
                        refine Tr.region ?_
                        refine TrL.stepS 289 (.plain rfl (.move rfl (.of rfl))) rfl rfl ?_
                        refine TrL.stepS 290 (.plain rfl (.not rfl (.of rfl))) rfl rfl ?_
                        refine TrL.stepS 291 (.plain rfl (.move rfl (.of rfl))) rfl rfl ?_
                        refine TrL.stepS 292 (.guarded rfl rfl rfl fun hg => .fieldP rfl (.of rfl) T.fl97_2) rfl rfl ?_
                        refine TrL.stepS 293 (.guarded rfl rfl rfl fun hg => .loadB 31 rfl (.cond rfl hg) rfl rfl rfl T.sc55) rfl rfl ?_
                        refine TrL.stepS 294 (.guarded rfl rfl rfl fun hg => .move rfl (.of rfl)) rfl rfl ?_
                        refine TrL.stepS 295 (.guarded rfl rfl rfl fun hg => .lss rfl (.cond rfl hg) (.cond rfl hg)) rfl rfl ?_
                        refine TrL.stepS 296 (.plain rfl (.or rfl (.of rfl) (.cond rfl fun h => h))) rfl rfl ?_
                        refine TrL.nil ?_
                        refine Fin.keepG (Γ' := [(0, _), (6, _), (7, _), (8, _), (9, _), (26, _), (27, _), (29, _), (35, _), (36, _), (37, _), (283, _), (284, _), (285, _), (296, _)]) (.same rfl (.same rfl (.same rfl (.same rfl (.same rfl (.same rfl (.same rfl (.same rfl (.same rfl (.same rfl (.same rfl (.same rfl (.same rfl (.same rfl (.same rfl .nil))))))))))))))) ?_
                        refine Fin.next ?_
                        refine Tr.cond rfl (fun hb19 => ?_) (fun hb19 => ?_)
                        · try simp only [decide_eq_true_eq, decide_eq_false_iff_not, beq_iff_eq, beq_eq_false_iff_ne, bne_iff_ne, bne_eq_false_iff_eq, Bool.and_eq_true, Bool.and_eq_false_iff, Bool.or_eq_true, Bool.or_eq_false_iff, Bool.not_eq_true', Bool.not_eq_false', gt_iff_lt, ge_iff_le, Int.not_lt, Int.not_le, ne_eq, Int.natCast_nonneg, true_and, and_true, Decidable.not_not, not_true_eq_false, not_false_eq_true] at hb19
                          refine Tr.region ?_
                          refine TrL.stepS 297 (.plain rfl (.fieldP rfl (.of rfl) T.fl97_2)) rfl rfl ?_
                          refine TrL.stepS 298 (.plain rfl (.loadB 31 rfl (.of rfl) rfl rfl rfl T.sc55)) rfl rfl ?_
                          refine TrL.stepS 26 (.plain rfl (.assign rfl (.of rfl))) rfl rfl ?_
                          refine TrL.stepS 27 (.plain rfl (.assign rfl (.of rfl))) rfl rfl ?_
                          refine TrL.nil ?_
                          refine Fin.keepG (Γ' := [(0, _), (6, _), (7, _), (8, _), (9, _), (26, _), (27, _), (35, _), (36, _), (37, _), (283, _), (284, _), (285, _)]) (.same rfl (.same rfl (.same rfl (.same rfl (.same rfl (.same rfl (.same rfl (.same rfl (.same rfl (.same rfl (.same rfl (.same rfl (.same rfl .nil))))))))))))) ?_
                          refine Fin.blockNormal ?_
                          have e : (minL (r2.take (j + 1))).2.2.1 = y.2.2.1 := by
                            by_cases hne : r2.take j = []
                            · rw [take_snoc hy, hne]; rfl
                            · rw [hsn hne]; unfold minS; rw [if_pos (by simpa [hne] using hb19)]
                          exact Fin.reach (()) (trivial) (.same rfl (.same rfl (.same rfl (.same rfl (.same rfl (.same rfl (.same rfl (.same rfl (.same rfl (.same rfl .nil)))))))))) (.eq rfl (by rw [if_neg hne1, e]) (.eq rfl (by simp [hne1]) (.same rfl (.same rfl (.same rfl (.same rfl (.same rfl (.same rfl (.same rfl (.same rfl (.same rfl (.same rfl (.same rfl .nil)))))))))))))
                        · try simp only [decide_eq_true_eq, decide_eq_false_iff_not, beq_iff_eq, beq_eq_false_iff_ne, bne_iff_ne, bne_eq_false_iff_eq, Bool.and_eq_true, Bool.and_eq_false_iff, Bool.or_eq_true, Bool.or_eq_false_iff, Bool.not_eq_true', Bool.not_eq_false', gt_iff_lt, ge_iff_le, Int.not_lt, Int.not_le, ne_eq, Int.natCast_nonneg, true_and, and_true, Decidable.not_not, not_true_eq_false, not_false_eq_true] at hb19
                          refine Tr.skip ?_
                          refine Fin.blockNormal ?_
                          have hne : r2.take j ≠ [] := by intro e; simp [e] at hb19
                          have e : (minL (r2.take (j + 1))).2.2.1 = (minL (r2.take j)).2.2.1 := by rw [hsn hne]; unfold minS; rw [if_neg (by have := hb19.2; simp [hne] at this; omega)]
                          exact Fin.reach (()) (trivial) (.same rfl (.same rfl (.same rfl (.same rfl (.same rfl (.same rfl (.same rfl (.same rfl (.same rfl (.same rfl .nil)))))))))) (.eq rfl (by rw [if_neg hne1, if_neg hne, e]) (.eq rfl (by simp [hne1, hne]) (.same rfl (.same rfl (.same rfl (.same rfl (.same rfl (.same rfl (.same rfl (.same rfl (.same rfl (.same rfl (.same rfl .nil)))))))))))))
                      case jk64 =>
                        intro _ _
                        refine Tr.region ?_
                        first | refine TrL.stepS 299 (.plain rfl (.addI L.bd_i64 rfl (.of rfl) (.of rfl) (by omega) (by omega))) rfl rfl ?_ | refine TrL.stepS 299 (.plain rfl (.add rfl (.of rfl) (.of rfl))) rfl rfl ?_
                        refine TrL.stepS 285 (.plain rfl (.move rfl (.of rfl))) rfl rfl ?_
                        refine TrL.nil ?_
                        refine Fin.keepG (Γ' := [(0, _), (6, _), (7, _), (8, _), (9, _), (26, _), (27, _), (35, _), (36, _), (37, _), (283, _), (284, _), (285, _)]) (.same rfl (.same rfl (.same rfl (.same rfl (.same rfl (.same rfl (.same rfl (.same rfl (.same rfl (.same rfl (.same rfl (.same rfl (.same rfl .nil))))))))))))) ?_
                        exact Fin.again (j + 1) (by omega) (by omega) (.same rfl (.same rfl (.same rfl (.same rfl (.same rfl (.same rfl (.same rfl (.same rfl (.same rfl (.same rfl .nil)))))))))) (.eq rfl (by rfl) (.eq rfl (by rfl) (.eq rfl (by first | rfl | (congr 1; first | done | omega | (push_cast; omega) | (push_cast; rfl))) (.same rfl (.same rfl (.same rfl (.same rfl (.same rfl (.same rfl (.same rfl (.same rfl (.same rfl (.same rfl .nil)))))))))))))
                    · try simp only [decide_eq_true_eq, decide_eq_false_iff_not, beq_iff_eq, beq_eq_false_iff_ne, bne_iff_ne, bne_eq_false_iff_eq, Bool.and_eq_true, Bool.and_eq_false_iff, Bool.or_eq_true, Bool.or_eq_false_iff, Bool.not_eq_true', Bool.not_eq_false', gt_iff_lt, ge_iff_le, Int.not_lt, Int.not_le, ne_eq, Int.natCast_nonneg, true_and, and_true, Decidable.not_not, not_true_eq_false, not_false_eq_true] at hb18
                      rw [List.take_of_length_le (show r2.length ≤ j by omega)]
                      refine Tr.exit ?_
                      refine Fin.thenExit ?_
                      refine Fin.thenExit ?_
                      refine Fin.blockOut ?_
                      refine Fin.next ?_
                      refine Tr.seq ?_
                      refine Tr.region ?_
                      refine TrL.stepS 301 (.plain rfl (.move rfl (.of rfl))) rfl rfl ?_
                      refine TrL.stepS 302 (.plain rfl (.callR [20, 21] rfl (F56 b vi' (max 0 most) g2 r2 (by omega)) (.cons (.of rfl) .nil) (.same rfl (.same rfl .nil)) rfl)) rfl rfl ?_
                      refine TrL.stepS 300 (.plain rfl (.move rfl (.of rfl))) rfl rfl ?_
                      refine TrL.stepS 303 (.plain rfl (.extract rfl (.of rfl) rfl)) rfl rfl ?_
                      refine TrL.stepS 304 (.plain rfl (.extract rfl (.of rfl) rfl)) rfl rfl ?_
                      refine TrL.stepS 30 (.plain rfl (.assign rfl (.of rfl))) rfl rfl ?_
                      refine TrL.stepS 31 (.plain rfl (.assign rfl (.of rfl))) rfl rfl ?_
                      refine TrL.nil ?_
                      refine Fin.keepG (Γ' := [(0, _), (6, _), (7, _), (8, _), (9, _), (26, _), (27, _), (30, _), (31, _), (35, _), (36, _), (37, _)]) (.same rfl (.same rfl (.same rfl (.same rfl (.same rfl (.same rfl (.same rfl (.same rfl (.same rfl (.same rfl (.same rfl (.same rfl .nil)))))))))))) ?_
                      refine Fin.next ?_
                      refine Tr.seq ?_
                      refine Tr.region ?_
                      refine TrL.stepS 305 (.plain rfl (.move rfl (.of rfl))) rfl rfl ?_
                      refine TrL.stepS 306 (.plain rfl (.move rfl (.of rfl))) rfl rfl ?_
                      refine TrL.stepS 307 (.plain rfl (.neq rfl (.of rfl) (.of rfl))) rfl rfl ?_
                      refine TrL.stepS 308 (.plain rfl (.move rfl (.of rfl))) rfl rfl ?_
                      refine TrL.stepS 309 (.guarded rfl rfl rfl fun hg => .move rfl (.of rfl)) rfl rfl ?_
                      refine TrL.stepS 310 (.guarded rfl rfl rfl fun hg => .move rfl (.of rfl)) rfl rfl ?_
                      refine TrL.stepS 311 (.guarded rfl rfl rfl fun hg => .neqB rfl (.cond rfl hg) (.cond rfl hg) Try.underlying4) rfl rfl ?_
                      refine TrL.stepS 312 (.plain rfl (.or rfl (.of rfl) (.cond rfl fun h => h))) rfl rfl ?_
                      refine TrL.nil ?_
                      refine Fin.keepG (Γ' := [(0, _), (6, _), (7, _), (8, _), (9, _), (35, _), (36, _), (37, _), (312, _)]) (.same rfl (.same rfl (.same rfl (.same rfl (.same rfl (.same rfl (.same rfl (.same rfl (.same rfl .nil))))))))) ?_
                      refine Fin.next ?_
                      refine Tr.cond rfl (fun hb20 => ?_) (fun hb20 => ?_)
                      · try simp only [decide_eq_true_eq, decide_eq_false_iff_not, beq_iff_eq, beq_eq_false_iff_ne, bne_iff_ne, bne_eq_false_iff_eq, Bool.and_eq_true, Bool.and_eq_false_iff, Bool.or_eq_true, Bool.or_eq_false_iff, Bool.not_eq_true', Bool.not_eq_false', gt_iff_lt, ge_iff_le, Int.not_lt, Int.not_le, ne_eq, Int.natCast_nonneg, true_and, and_true, Decidable.not_not, not_true_eq_false, not_false_eq_true] at hb20
                        exfalso; simp at hb20
                      · try simp only [decide_eq_true_eq, decide_eq_false_iff_not, beq_iff_eq, beq_eq_false_iff_ne, bne_iff_ne, bne_eq_false_iff_eq, Bool.and_eq_true, Bool.and_eq_false_iff, Bool.or_eq_true, Bool.or_eq_false_iff, Bool.not_eq_true', Bool.not_eq_false', gt_iff_lt, ge_iff_le, Int.not_lt, Int.not_le, ne_eq, Int.natCast_nonneg, true_and, and_true, Decidable.not_not, not_true_eq_false, not_false_eq_true] at hb20
                        refine Tr.skip ?_
                        refine Fin.blockNormal ?_
                        refine Fin.next ?_
                        refine Tr.region ?_
                        first | refine TrL.stepS 314 (.plain rfl (.addI L.bd_i64 rfl (.of rfl) (.of rfl) (by omega) (by omega))) rfl rfl ?_ | refine TrL.stepS 314 (.plain rfl (.add rfl (.of rfl) (.of rfl))) rfl rfl ?_
                        refine TrL.stepS 37 (.plain rfl (.move rfl (.of rfl))) rfl rfl ?_
                        refine TrL.nil ?_
                        refine Fin.keepG (Γ' := [(0, _), (6, _), (7, _), (8, _), (9, _), (35, _), (36, _), (37, _)]) (.same rfl (.same rfl (.same rfl (.same rfl (.same rfl (.same rfl (.same rfl (.same rfl .nil)))))))) ?_
                        exact Fin.again ((k + 1, r2, g2, vm', vi')) (⟨by dsimp only; omega, hrn2, hinv2⟩) (by dsimp only; omega) (.same rfl (.same rfl (.same rfl (.same rfl .nil)))) (.eq rfl (by first | rfl | (congr 1; first | done | omega | (push_cast; omega) | (push_cast; rfl))) (.eq rfl (by first | rfl | (congr 1; first | done | omega | (push_cast; omega) | (push_cast; rfl))) (.same rfl (.same rfl (.same rfl (.same rfl (.same rfl (.same rfl .nil))))))))
    · try simp only [decide_eq_true_eq, decide_eq_false_iff_not, beq_iff_eq, beq_eq_false_iff_ne, bne_iff_ne, bne_eq_false_iff_eq, Bool.and_eq_true, Bool.and_eq_false_iff, Bool.or_eq_true, Bool.or_eq_false_iff, Bool.not_eq_true', Bool.not_eq_false', gt_iff_lt, ge_iff_le, Int.not_lt, Int.not_le, ne_eq, Int.natCast_nonneg, true_and, and_true, Decidable.not_not, not_true_eq_false, not_false_eq_true] at hb0
      have hfin : runH most hz = (rows, g) := by rw [← hI.2.1, List.take_of_length_le (by omega)]
      refine Tr.exit ?_
      refine Fin.thenExit ?_
      refine Fin.thenExit ?_
      refine Fin.blockOut ?_
      refine Fin.next ?_
      refine Tr.seq ?_
      refine Tr.region ?_
      refine TrL.stepS 315 (.plain rfl (.move rfl (.of rfl))) rfl rfl ?_
      refine TrL.stepS 4 (.plain rfl (.assign rfl (.of rfl))) rfl rfl ?_
      refine TrL.stepS 5 (.plain rfl (.assign rfl (.of rfl))) rfl rfl ?_
      refine TrL.nil ?_
      refine Fin.keepG (Γ' := [(4, _), (5, _)]) (.same rfl (.same rfl .nil)) ?_
      refine Fin.next ?_
      refine Tr.ret ?_
      refine Fin.retI (rs := [_, _]) (Rs' := [is (.int .i64 (runH most hz).2), is (.bool true)]) rfl (.cons (.tmp rfl) (.cons (.tmp rfl) .nil)) (.cons (L.iv ?_) (.cons (L.iv rfl) .nil))
      · rw [hfin]

end Go.Proofs.Ytemkogoclljhpaa