import Derived.Test.YtemkogoclljhpaaY7
namespace Go.Proofs.Ytemkogoclljhpaa
open Go Go.Proofs.Ytemkogoclljhpaa.L
set_option linter.unusedVariables false
set_option linter.unusedSimpArgs false

namespace T
theorem Y8bd75_0_1 (c0 : Int) (c1 : Int) : Try.prog.built 75 [(0, .int .i64 c0), (1, .int .i64 c1)] = some #[.int .i64 c0, .int .i64 c1] := by kernel_rfl
theorem Y8bd81  : Try.prog.built 81 [] = some #[.bool false, .slice none 0 0, .slice none 0 0, .slice none 0 0] := by kernel_rfl
theorem Y8bd88_0_1_2_3 (c0 : Int) (c1 : Int) (c2 : Int) (c3 : Int) : Try.prog.built 88 [(0, .int .u8 c0), (1, .int .u8 c1), (2, .int .u8 c2), (3, .int .u8 c3)] = some #[.int .u8 c0, .int .u8 c1, .int .u8 c2, .int .u8 c3] := by kernel_rfl
end T


abbrev a1 : List En := makeE [] zN
abbrev b1 : List (Int × Unit) := mapDel [] (fr [] : Int)
abbrev a2 : List En := makeE a1 zN
abbrev b2 : List (Int × Unit) := mapDel b1 (fr a1 : Int)
abbrev a3 : List En := makeE a2 zN
abbrev b3 : List (Int × Unit) := mapDel b2 (fr a2 : Int)
abbrev x1 : Int × Int := (((fr [] : Nat) : Int), makeG [])
abbrev x2 : Int × Int := (((fr a1 : Nat) : Int), makeG a1)
abbrev a4 : List En := if freeOk a3 [x2] = true then freeE a3 [x2] else a3
abbrev b4 : List (Int × Unit) := if freeOk a3 [x2] = true then freeMs b3 [x2] else b3
abbrev a5 : List En := if freeOk a4 [x1] = true then freeE a4 [x1] else a4
abbrev b5 : List (Int × Unit) := if freeOk a4 [x1] = true then freeMs b4 [x1] else b4
abbrev a6 : List En := makeE a5 zN
abbrev b6 : List (Int × Unit) := mapDel b5 (fr a5 : Int)
theorem hF0 : FreeM [] [] := ⟨by simp, fun a => by simp [mapGet]⟩
theorem hF1 : FreeM b1 a1 := hF0.make zN
theorem hF2 : FreeM b2 a2 := hF1.make zN
theorem hF3 : FreeM b3 a3 := hF2.make zN
theorem hF4 : FreeM b4 a4 := by
  have h : freeOk a3 [x2] = true := by decide +kernel
  show FreeM (if _ then _ else _) (if _ then _ else _)
  rw [if_pos h, if_pos h]; exact hF3.frees (by decide +kernel)
theorem hF5 : FreeM b5 a5 := by
  have h : freeOk a4 [x1] = true := by decide +kernel
  show FreeM (if _ then _ else _) (if _ then _ else _)
  rw [if_pos h, if_pos h]; exact hF4.frees (by decide +kernel)
theorem hF6 : FreeM b6 a6 := hF5.make zN
theorem okE0 : okEs [] := by intro e he; simp at he
theorem okE1 : okEs a1 := by unfold okEs okN; decide +kernel
theorem okE2 : okEs a2 := by unfold okEs okN; decide +kernel
theorem okE3 : okEs a3 := by unfold okEs okN; decide +kernel
theorem okE4 : okEs a4 := by unfold okEs okN; decide +kernel
theorem okE5 : okEs a5 := by unfold okEs okN; decide +kernel
theorem okE6 : okEs a6 := by unfold okEs okN; decide +kernel
theorem okZ : okN zN := ⟨by decide, by decide, by decide⟩
abbrev g34 : List Hg := [(0, 0, 0, 1), (0, 0, 0, 2), (5, 0, 0, 0), (5, 0, 1, 0), (0, 0, 0, 4), (2, 0, 0, 0), (3, 2, 0, 7), (4, 2, 0, 0)]
theorem okG34 : ∀ q ∈ g34, okG q := by unfold okG; decide +kernel

/- tidepool/tidepooltop.known34b -/
set_option maxRecDepth 100000 in
theorem F16  : FnP Try.prog 16 [] (is (.bool true)) := by
  refine FnP.mk' Try.func16 T.nm16 rfl (N := 114) rfl rfl fun B hB hκ => ?_
  refine Tr.seq ?_
  refine Tr.region ?_
  refine TrL.stepS 0 (.plain rfl (.assign rfl (.of rfl))) rfl rfl ?_
  refine TrL.nil ?_
  refine Fin.keepG (Γ' := []) .nil ?_
  refine Fin.next ?_
  refine Tr.seq ?_
  refine Tr.region ?_
  refine TrL.callG [] [] [20, 21, 22] rfl rfl 11 rfl rfl F43 .nil .nil rfl rfl (fun _ => rfl) fun g0 => ?_
  refine TrL.stepS 1 (.plain rfl (.assign rfl (.of rfl))) rfl rfl ?_
  refine TrL.nil ?_
  refine Fin.keepG (Γ' := [(1, _)]) (.same rfl .nil) ?_
  refine Fin.next ?_
  refine Tr.seq ?_
  refine Tr.own0 30 (intR .i64) 3 rfl ?_
  refine Tr.region ?_
  refine TrL.stepS 12 (.plain rfl (.move rfl (.of rfl))) rfl rfl ?_
  refine TrL.stepS 13 (.plain rfl (.buildF (Ss := [is (.bool false), Lst strR [], Lst handR [], is (.slice none 0 0)]) rfl .nil (fun w vs h => by rcases h with _ | _; exact ⟨_, T.Y8bd81 .., .cons (rfl) (.cons (L.lst_nil' rfl) (.cons (L.lst_nil' rfl) (.cons (rfl) (.nil))))⟩))) rfl rfl ?_
  refine TrL.callG [30] [20, 21, 22] [20, 21, 22] rfl rfl 14 rfl rfl (F44 g0.1 (.slice none 0 0) g0.2 [] [] hF0 okE0 (by decide +kernel) zN okZ (.slice none 0 0)) (.cons (.of rfl) (.cons (.of rfl) .nil)) (.cons rfl L.Own.view (.same rfl (.same rfl (.same rfl .nil)))) rfl rfl (fun _ => rfl) fun v1 => ?_
  refine TrL.stepS 15 (.plain rfl (.move rfl (.of rfl))) rfl rfl ?_
  refine TrL.stepS 16 (.plain rfl (.buildF (Ss := [is (.bool false), Lst strR [], Lst handR [], is (.slice none 0 0)]) rfl .nil (fun w vs h => by rcases h with _ | _; exact ⟨_, T.Y8bd81 .., .cons (rfl) (.cons (L.lst_nil' rfl) (.cons (L.lst_nil' rfl) (.cons (rfl) (.nil))))⟩))) rfl rfl ?_
  refine TrL.callG [30] [20, 21, 22] [20, 21, 22] rfl rfl 17 rfl rfl (F44 g0.1 v1 g0.2 b1 a1 hF1 okE1 (by decide +kernel) zN okZ (.slice none 0 0)) (.cons (.of rfl) (.cons (.of rfl) .nil)) (.cons rfl L.Own.view (.same rfl (.same rfl (.same rfl .nil)))) rfl rfl (fun _ => rfl) fun v2 => ?_
  refine TrL.stepS 18 (.plain rfl (.move rfl (.of rfl))) rfl rfl ?_
  refine TrL.stepS 19 (.plain rfl (.buildF (Ss := [is (.bool false), Lst strR [], Lst handR [], is (.slice none 0 0)]) rfl .nil (fun w vs h => by rcases h with _ | _; exact ⟨_, T.Y8bd81 .., .cons (rfl) (.cons (L.lst_nil' rfl) (.cons (L.lst_nil' rfl) (.cons (rfl) (.nil))))⟩))) rfl rfl ?_
  refine TrL.callG [30] [20, 21, 22] [20, 21, 22] rfl rfl 20 rfl rfl (F44 g0.1 v2 g0.2 b2 a2 hF2 okE2 (by decide +kernel) zN okZ (.slice none 0 0)) (.cons (.of rfl) (.cons (.of rfl) .nil)) (.cons rfl L.Own.view (.same rfl (.same rfl (.same rfl .nil)))) rfl rfl (fun _ => rfl) fun v3 => ?_
  refine TrL.allocS 40 (zs := [.int .i64 0, .int .i64 0]) rfl rfl (by kernel_rfl) 2 rfl rfl rfl fun b40 => ?_
  refine TrL.allocS 41 (zs := [.int .i64 0, .int .i64 0]) rfl rfl (by kernel_rfl) 3 rfl rfl rfl fun b41 => ?_
  refine TrL.allocS 42 (zs := [.int .i64 0, .int .i64 0]) rfl rfl (by kernel_rfl) 4 rfl rfl rfl fun b42 => ?_
  refine TrL.storeW 40 (vs := [_, _]) rfl rfl rfl (.of rfl) (.of rfl) rfl rfl T.sz75 rfl rfl ?_
  refine TrL.storeW 41 (vs := [_, _]) rfl rfl rfl (.of rfl) (.of rfl) rfl rfl T.sz75 rfl rfl ?_
  refine TrL.storeW 42 (vs := [_, _]) rfl rfl rfl (.of rfl) (.of rfl) rfl rfl T.sz75 rfl rfl ?_
  refine TrL.nil ?_
  refine Fin.keepG (Γ' := [(1, _), (2, _), (3, _), (4, _)]) (.same rfl (.same rfl (.same rfl (.same rfl .nil)))) ?_
  refine Fin.next ?_
  refine Tr.seq ?_
  refine Tr.seq ?_
  refine Tr.region ?_
  refine TrL.stepS 21 (.plain rfl (.loadBN 40 (k := 2) (ds := [_, _]) rfl (.of rfl) rfl rfl rfl T.ag75 rfl)) rfl rfl ?_
  refine TrL.stepS 22 (.plain rfl (.build rfl (.cons (.of rfl) (.cons (.of rfl) .nil)) (T.Y8bd75_0_1 _ _))) rfl rfl ?_
  refine TrL.stepS 23 (.plain rfl (.neqS rfl (.of rfl) (.of rfl) (by kernel_rfl) (T.eq75 _ _ _ _))) rfl rfl ?_
  refine TrL.stepS 24 (.plain rfl (.move rfl (.of rfl))) rfl rfl ?_
  refine TrL.slotI (R' := is (.bool false)) 24 rfl (fun v w h => h.trans (congrArg Value.bool (by decide +kernel))) ?_
  refine TrL.unguard rfl rfl rfl ?_
  refine TrL.stepS 25 (.plain rfl (.loadBN 41 (k := 2) (ds := [_, _]) rfl (.of rfl) rfl rfl rfl T.ag75 rfl)) rfl rfl ?_
  refine TrL.unguard rfl rfl rfl ?_
  refine TrL.stepS 26 (.plain rfl (.build rfl (.cons (.of rfl) (.cons (.of rfl) .nil)) (T.Y8bd75_0_1 _ _))) rfl rfl ?_
  refine TrL.unguard rfl rfl rfl ?_
  refine TrL.stepS 27 (.plain rfl (.neqS rfl (.of rfl) (.of rfl) (by kernel_rfl) (T.eq75 _ _ _ _))) rfl rfl ?_
  refine TrL.stepS 28 (.plain rfl (.or rfl (.of rfl) (.of rfl))) rfl rfl ?_
  refine TrL.stepS 29 (.plain rfl (.move rfl (.of rfl))) rfl rfl ?_
  refine TrL.slotI (R' := is (.bool false)) 29 rfl (fun v w h => h.trans (congrArg Value.bool (by decide +kernel))) ?_
  refine TrL.unguard rfl rfl rfl ?_
  refine TrL.stepS 30 (.plain rfl (.loadBN 42 (k := 2) (ds := [_, _]) rfl (.of rfl) rfl rfl rfl T.ag75 rfl)) rfl rfl ?_
  refine TrL.unguard rfl rfl rfl ?_
  refine TrL.stepS 31 (.plain rfl (.build rfl (.cons (.of rfl) (.cons (.of rfl) .nil)) (T.Y8bd75_0_1 _ _))) rfl rfl ?_
  refine TrL.unguard rfl rfl rfl ?_
  refine TrL.stepS 32 (.plain rfl (.neqS rfl (.of rfl) (.of rfl) (by kernel_rfl) (T.eq75 _ _ _ _))) rfl rfl ?_
  refine TrL.stepS 33 (.plain rfl (.or rfl (.of rfl) (.of rfl))) rfl rfl ?_
  refine TrL.stepS 34 (.plain rfl (.move rfl (.of rfl))) rfl rfl ?_
  refine TrL.slotI (R' := is (.bool false)) 34 rfl (fun v w h => h.trans (congrArg Value.bool (by decide +kernel))) ?_
  refine TrL.unguard rfl rfl rfl ?_
  refine TrL.stepS 35 (.plain rfl (.move rfl (.of rfl))) rfl rfl ?_
  refine TrL.unguard rfl rfl rfl ?_
  refine TrL.stepS 36 (.plain rfl (.loadBN 41 (k := 2) (ds := [_, _]) rfl (.of rfl) rfl rfl rfl T.ag75 rfl)) rfl rfl ?_
  refine TrL.unguard rfl rfl rfl ?_
  refine TrL.stepS 37 (.plain rfl (.slice (K := handR) (xs := [_]) rfl (.cons (.map (.of rfl) (handR_elem _ _)) .nil) Try.underlying78 T.sz75 T.zb75 rfl (by decide))) rfl rfl ?_
  refine TrL.unguard rfl rfl rfl ?_
  refine TrL.callG [20] [21, 22] [21, 22] rfl rfl 38 rfl rfl (F45 g0.1 v3 g0.2 b3 a3 hF3 okE3 (by decide +kernel) [x2] (by decide +kernel)) (.cons (.of rfl) (.cons (.of rfl) .nil)) (.same rfl (.same rfl (.same rfl .nil))) rfl rfl (fun _ => rfl) fun _ => ?_
  refine TrL.unguard rfl rfl rfl ?_
  refine TrL.stepS 39 (.plain rfl (.neq rfl (.of rfl) (.of rfl))) rfl rfl ?_
  refine TrL.stepS 40 (.plain rfl (.or rfl (.of rfl) (.of rfl))) rfl rfl ?_
  refine TrL.stepS 41 (.plain rfl (.move rfl (.of rfl))) rfl rfl ?_
  refine TrL.slotI (R' := is (.bool false)) 41 rfl (fun v w h => h.trans (congrArg Value.bool (by decide +kernel))) ?_
  refine TrL.unguard rfl rfl rfl ?_
  refine TrL.stepS 42 (.plain rfl (.move rfl (.of rfl))) rfl rfl ?_
  refine TrL.unguard rfl rfl rfl ?_
  refine TrL.stepS 43 (.plain rfl (.loadBN 40 (k := 2) (ds := [_, _]) rfl (.of rfl) rfl rfl rfl T.ag75 rfl)) rfl rfl ?_
  refine TrL.unguard rfl rfl rfl ?_
  refine TrL.stepS 44 (.plain rfl (.slice (K := handR) (xs := [_]) rfl (.cons (.map (.of rfl) (handR_elem _ _)) .nil) Try.underlying78 T.sz75 T.zb75 rfl (by decide))) rfl rfl ?_
  refine TrL.unguard rfl rfl rfl ?_
  refine TrL.callG [20] [21, 22] [21, 22] rfl rfl 45 rfl rfl (F45 g0.1 v3 g0.2 b4 a4 hF4 okE4 (by decide +kernel) [x1] (by decide +kernel)) (.cons (.of rfl) (.cons (.of rfl) .nil)) (.same rfl (.same rfl (.same rfl .nil))) rfl rfl (fun _ => rfl) fun _ => ?_
  refine TrL.unguard rfl rfl rfl ?_
  refine TrL.stepS 46 (.plain rfl (.neq rfl (.of rfl) (.of rfl))) rfl rfl ?_
  refine TrL.stepS 47 (.plain rfl (.or rfl (.of rfl) (.of rfl))) rfl rfl ?_
  refine TrL.stepS 48 (.plain rfl (.move rfl (.of rfl))) rfl rfl ?_
  refine TrL.slotI (R' := is (.bool false)) 48 rfl (fun v w h => h.trans (congrArg Value.bool (by decide +kernel))) ?_
  refine TrL.unguard rfl rfl rfl ?_
  refine TrL.stepS 49 (.plain rfl (.move rfl (.of rfl))) rfl rfl ?_
  refine TrL.unguard rfl rfl rfl ?_
  refine TrL.stepS 50 (.plain rfl (.buildF (Ss := [is (.bool false), Lst strR [], Lst handR [], is (.slice none 0 0)]) rfl .nil (fun w vs h => by rcases h with _ | _; exact ⟨_, T.Y8bd81 .., .cons (rfl) (.cons (L.lst_nil' rfl) (.cons (L.lst_nil' rfl) (.cons (rfl) (.nil))))⟩))) rfl rfl ?_
  refine TrL.unguard rfl rfl rfl ?_
  refine TrL.callG [30] [20, 21, 22] [20, 21, 22] rfl rfl 51 rfl rfl (F44 g0.1 v3 g0.2 b5 a5 hF5 okE5 (by decide +kernel) zN okZ (.slice none 0 0)) (.cons (.of rfl) (.cons (.of rfl) .nil)) (.cons rfl L.Own.view (.same rfl (.same rfl (.same rfl .nil)))) rfl rfl (fun _ => rfl) fun v6 => ?_
  refine TrL.unguard rfl rfl rfl ?_
  refine TrL.stepS 52 (.plain rfl (.build rfl (.cons (.of rfl) (.cons (.of rfl) .nil)) (T.Y8bd75_0_1 _ _))) rfl rfl ?_
  refine TrL.unguard rfl rfl rfl ?_
  refine TrL.stepS 53 (.plain rfl (.neqS rfl (.of rfl) (.of rfl) (by kernel_rfl) (T.eq75 _ _ _ _))) rfl rfl ?_
  refine TrL.stepS 54 (.plain rfl (.or rfl (.of rfl) (.of rfl))) rfl rfl ?_
  refine TrL.nil ?_
  refine Fin.keepG (Γ' := [(1, _), (2, _), (3, _), (54, _)]) (.same rfl (.same rfl (.same rfl (.same rfl .nil)))) ?_
  refine Fin.next ?_
  refine Tr.cond rfl (fun hb0 => ?_) (fun hb0 => ?_)
  · try simp only [decide_eq_true_eq, decide_eq_false_iff_not, beq_iff_eq, beq_eq_false_iff_ne, bne_iff_ne, bne_eq_false_iff_eq, Bool.and_eq_true, Bool.and_eq_false_iff, Bool.or_eq_true, Bool.or_eq_false_iff, Bool.not_eq_true', Bool.not_eq_false', gt_iff_lt, ge_iff_le, Int.not_lt, Int.not_le, ne_eq, Int.natCast_nonneg, true_and, and_true, Decidable.not_not, not_true_eq_false, not_false_eq_true] at hb0
    exfalso; revert hb0; decide +kernel
  · have hr0 := hb0; try simp only [decide_eq_true_eq, decide_eq_false_iff_not, beq_iff_eq, beq_eq_false_iff_ne, bne_iff_ne, bne_eq_false_iff_eq, Bool.and_eq_true, Bool.and_eq_false_iff, Bool.or_eq_true, Bool.or_eq_false_iff, Bool.not_eq_true', Bool.not_eq_false', gt_iff_lt, ge_iff_le, Int.not_lt, Int.not_le, ne_eq, Int.natCast_nonneg, true_and, and_true, Decidable.not_not, not_true_eq_false, not_false_eq_true] at hb0
    refine Tr.skip ?_
    refine Fin.next ?_
    refine Tr.seq ?_
    refine Tr.region ?_
    refine TrL.stepS 56 (.plain rfl (.move rfl (.of rfl))) rfl rfl ?_
    refine TrL.stepS 57 (.plain rfl (.loadBN 40 (k := 2) (ds := [_, _]) rfl (.of rfl) rfl rfl rfl T.ag75 rfl)) rfl rfl ?_
    refine TrL.stepS 58 (.plain rfl (.callR [20, 21, 22] rfl (F46 g0.1 v6 g0.2 b6 a6 hF6 okE6 (by decide +kernel) x1.1 x1.2) (.cons (.of rfl) (.cons (.of rfl) .nil)) (.same rfl (.same rfl (.same rfl .nil))) rfl)) rfl rfl ?_
    refine TrL.stepS 55 (.plain rfl (.move rfl (.of rfl))) rfl rfl ?_
    refine TrL.stepS 59 (.plain rfl (.extract rfl (.of rfl) rfl)) rfl rfl ?_
    refine TrL.stepS 60 (.plain rfl (.extract rfl (.of rfl) rfl)) rfl rfl ?_
    refine TrL.allocR 43 (zs := [.bool false, .slice none 0 0, .slice none 0 0, .slice none 0 0]) rfl rfl (by kernel_rfl) 5 rfl rfl rfl fun b43 => ?_
    refine TrL.storeRW 43 rfl rfl rfl (.of rfl) (.of rfl) rfl rfl ((L.all1_cons (L.h1is rfl rfl) (L.all1_cons (L.h1lst) (L.all1_cons (L.h1lst) (L.all1_cons (L.h1lst) L.all1_nil))))) T.sz81 rfl ?_
    refine TrL.stepS 6 (.plain rfl (.assign rfl (.of rfl))) rfl rfl ?_
    refine TrL.nil ?_
    refine Fin.keepG (Γ' := [(1, _), (3, _), (6, _)]) (.same rfl (.same rfl (.same rfl .nil))) ?_
    refine Fin.next ?_
    refine Tr.seq ?_
    refine Tr.region ?_
    refine TrL.stepS 62 (.plain rfl (.move rfl (.of rfl))) rfl rfl ?_
    refine TrL.stepS 63 (.plain rfl (.callR [20, 21, 22] rfl (F47 g0.1 v6 g0.2 b6 a6 hF6 okE6 (by decide +kernel)) (.cons (.of rfl) .nil) (.same rfl (.same rfl (.same rfl .nil))) rfl)) rfl rfl ?_
    refine TrL.stepS 61 (.plain rfl (.move rfl (.of rfl))) rfl rfl ?_
    refine TrL.stepS 64 (.plain rfl (.extract rfl (.of rfl) rfl)) rfl rfl ?_
    refine TrL.stepS 65 (.plain rfl (.extract rfl (.of rfl) rfl)) rfl rfl ?_
    refine TrL.stepS 7 (.plain rfl (.assign rfl (.of rfl))) rfl rfl ?_
    refine TrL.stepS 8 (.plain rfl (.assign rfl (.of rfl))) rfl rfl ?_
    refine TrL.nil ?_
    refine Fin.keepG (Γ' := [(1, _), (3, _), (6, _), (7, _), (8, _)]) (.same rfl (.same rfl (.same rfl (.same rfl (.same rfl .nil))))) ?_
    refine Fin.next ?_
    refine Tr.seq ?_
    refine Tr.region ?_
    refine TrL.stepS 67 (.plain rfl (.build rfl (.cons (.of rfl) (.cons (.of rfl) (.cons (.of rfl) (.cons (.of rfl) .nil)))) (T.Y8bd88_0_1_2_3 _ _ _ _))) rfl rfl ?_
    refine TrL.stepS 68 (.plain rfl (.build rfl (.cons (.of rfl) (.cons (.of rfl) (.cons (.of rfl) (.cons (.of rfl) .nil)))) (T.Y8bd88_0_1_2_3 _ _ _ _))) rfl rfl ?_
    refine TrL.stepS 69 (.plain rfl (.build rfl (.cons (.of rfl) (.cons (.of rfl) (.cons (.of rfl) (.cons (.of rfl) .nil)))) (T.Y8bd88_0_1_2_3 _ _ _ _))) rfl rfl ?_
    refine TrL.stepS 70 (.plain rfl (.build rfl (.cons (.of rfl) (.cons (.of rfl) (.cons (.of rfl) (.cons (.of rfl) .nil)))) (T.Y8bd88_0_1_2_3 _ _ _ _))) rfl rfl ?_
    refine TrL.stepS 71 (.plain rfl (.build rfl (.cons (.of rfl) (.cons (.of rfl) (.cons (.of rfl) (.cons (.of rfl) .nil)))) (T.Y8bd88_0_1_2_3 _ _ _ _))) rfl rfl ?_
    refine TrL.stepS 72 (.plain rfl (.build rfl (.cons (.of rfl) (.cons (.of rfl) (.cons (.of rfl) (.cons (.of rfl) .nil)))) (T.Y8bd88_0_1_2_3 _ _ _ _))) rfl rfl ?_
    refine TrL.stepS 73 (.plain rfl (.build rfl (.cons (.of rfl) (.cons (.of rfl) (.cons (.of rfl) (.cons (.of rfl) .nil)))) (T.Y8bd88_0_1_2_3 _ _ _ _))) rfl rfl ?_
    refine TrL.stepS 74 (.plain rfl (.build rfl (.cons (.of rfl) (.cons (.of rfl) (.cons (.of rfl) (.cons (.of rfl) .nil)))) (T.Y8bd88_0_1_2_3 _ _ _ _))) rfl rfl ?_
    refine TrL.stepS 75 (.plain rfl (.slice (K := gripR) (xs := [_, _, _, _, _, _, _, _]) rfl (.cons (.map (.of rfl) (gripR_elem _ _ _ _)) (.cons (.map (.of rfl) (gripR_elem _ _ _ _)) (.cons (.map (.of rfl) (gripR_elem _ _ _ _)) (.cons (.map (.of rfl) (gripR_elem _ _ _ _)) (.cons (.map (.of rfl) (gripR_elem _ _ _ _)) (.cons (.map (.of rfl) (gripR_elem _ _ _ _)) (.cons (.map (.of rfl) (gripR_elem _ _ _ _)) (.cons (.map (.of rfl) (gripR_elem _ _ _ _)) .nil)))))))) Try.underlying38 T.sz88 T.zb88 rfl (by decide))) rfl rfl ?_
    refine TrL.stepS 76 (.plain rfl (.call rfl (F17 g34 (by decide +kernel) okG34) (.cons (.of rfl) .nil))) rfl rfl ?_
    refine TrL.stepS 66 (.plain rfl (.move rfl (.of rfl))) rfl rfl ?_
    refine TrL.stepS 77 (.plain rfl (.extract rfl (.of rfl) rfl)) rfl rfl ?_
    refine TrL.stepS 78 (.plain rfl (.extract rfl (.of rfl) rfl)) rfl rfl ?_
    refine TrL.stepS 9 (.plain rfl (.assign rfl (.of rfl))) rfl rfl ?_
    refine TrL.stepS 10 (.plain rfl (.assign rfl (.of rfl))) rfl rfl ?_
    refine TrL.nil ?_
    refine Fin.keepG (Γ' := [(1, _), (3, _), (6, _), (7, _), (8, _), (9, _), (10, _)]) (.same rfl (.same rfl (.same rfl (.same rfl (.same rfl (.same rfl (.same rfl .nil))))))) ?_
    refine Fin.next ?_
    refine Tr.seq ?_
    refine Tr.region ?_
    refine TrL.stepS 79 (.plain rfl (.move rfl (.of rfl))) rfl rfl ?_
    refine TrL.stepS 80 (.plain rfl (.eql rfl (.of rfl) (.of rfl))) rfl rfl ?_
    refine TrL.stepS 81 (.plain rfl (.move rfl (.of rfl))) rfl rfl ?_
    refine TrL.stepS 82 (.guarded rfl rfl rfl fun hg => .move rfl (.of rfl)) rfl rfl ?_
    refine TrL.stepS 83 (.guarded rfl rfl rfl fun hg => .loadBN 41 (k := 2) (ds := [_, _]) rfl (.of rfl) rfl rfl rfl T.ag75 rfl) rfl rfl ?_
    refine TrL.stepS 84 (.guarded rfl rfl rfl fun hg => .callR [20, 21, 22] rfl (F48 g0.1 v6 g0.2 b6 a6 hF6 okE6 (by decide +kernel) x2.1 x2.2) (.cons (.cond rfl hg) (.cons (.cond rfl hg) .nil)) (.same rfl (.same rfl (.same rfl .nil))) rfl) rfl rfl ?_
    refine TrL.stepS 85 (.guarded rfl rfl rfl fun hg => .not rfl (.cond rfl hg)) rfl rfl ?_
    refine TrL.stepS 86 (.plain rfl (.and rfl (.of rfl) (.cond rfl fun h => h))) rfl rfl ?_
    refine TrL.stepS 87 (.plain rfl (.move rfl (.of rfl))) rfl rfl ?_
    refine TrL.stepS 88 (.guarded rfl rfl rfl fun hg => .move rfl (.of rfl)) rfl rfl ?_
    refine TrL.stepS 89 (.guarded rfl rfl rfl fun hg => .eql rfl (.cond rfl hg) (.of rfl)) rfl rfl ?_
    refine TrL.stepS 90 (.plain rfl (.and rfl (.of rfl) (.cond rfl fun h => h))) rfl rfl ?_
    refine TrL.stepS 91 (.plain rfl (.move rfl (.of rfl))) rfl rfl ?_
    refine TrL.stepS 92 (.guarded rfl rfl rfl fun hg => .move rfl (.of rfl)) rfl rfl ?_
    refine TrL.stepS 93 (.guarded rfl rfl rfl fun hg => .eql rfl (.cond rfl hg) (.of rfl)) rfl rfl ?_
    refine TrL.stepS 94 (.plain rfl (.and rfl (.of rfl) (.cond rfl fun h => h))) rfl rfl ?_
    refine TrL.stepS 95 (.plain rfl (.move rfl (.of rfl))) rfl rfl ?_
    refine TrL.stepS 96 (.guarded rfl rfl rfl fun hg => .move rfl (.of rfl)) rfl rfl ?_
    refine TrL.stepS 97 (.plain rfl (.and rfl (.of rfl) (.cond rfl fun h => h))) rfl rfl ?_
    refine TrL.stepS 98 (.plain rfl (.move rfl (.of rfl))) rfl rfl ?_
    refine TrL.stepS 99 (.guarded rfl rfl rfl fun hg => .move rfl (.of rfl)) rfl rfl ?_
    refine TrL.stepS 100 (.guarded rfl rfl rfl fun hg => .eql rfl (.cond rfl hg) (.of rfl)) rfl rfl ?_
    refine TrL.stepS 101 (.plain rfl (.and rfl (.of rfl) (.cond rfl fun h => h))) rfl rfl ?_
    refine TrL.stepS 102 (.plain rfl (.move rfl (.of rfl))) rfl rfl ?_
    refine TrL.stepS 103 (.guarded rfl rfl rfl fun hg => .call rfl (F50 1 (by decide)) (.cons (.of rfl) .nil)) rfl rfl ?_
    refine TrL.stepS 104 (.guarded rfl rfl rfl fun hg => .call rfl (F50 4 (by decide)) (.cons (.of rfl) .nil)) rfl rfl ?_
    refine TrL.stepS 105 (.guarded rfl rfl rfl fun hg => .call rfl (F49 _ _ (nodeOf_ok _) (nodeOf_ok _)) (.cons (.cond rfl hg) (.cons (.cond rfl hg) .nil))) rfl rfl ?_
    refine TrL.stepS 106 (.guarded rfl rfl rfl fun hg => .not rfl (.cond rfl hg)) rfl rfl ?_
    refine TrL.stepS 107 (.plain rfl (.and rfl (.of rfl) (.cond rfl fun h => h))) rfl rfl ?_
    refine TrL.stepS 108 (.plain rfl (.move rfl (.of rfl))) rfl rfl ?_
    refine TrL.stepS 109 (.guarded rfl rfl rfl fun hg => .call rfl (F50 1 (by decide)) (.cons (.of rfl) .nil)) rfl rfl ?_
    refine TrL.stepS 110 (.guarded rfl rfl rfl fun hg => .call rfl (F50 3 (by decide)) (.cons (.of rfl) .nil)) rfl rfl ?_
    refine TrL.stepS 111 (.guarded rfl rfl rfl fun hg => .call rfl (F49 _ _ (nodeOf_ok _) (nodeOf_ok _)) (.cons (.cond rfl hg) (.cons (.cond rfl hg) .nil))) rfl rfl ?_
    refine TrL.stepS 112 (.guarded rfl rfl rfl fun hg => .not rfl (.cond rfl hg)) rfl rfl ?_
    refine TrL.stepS 113 (.plain rfl (.and rfl (.of rfl) (.cond rfl fun h => h))) rfl rfl ?_
    refine TrL.stepS 0 (.plain rfl (.assign rfl (.of rfl))) rfl rfl ?_
    refine TrL.nil ?_
    refine Fin.keepG (Γ' := [(0, _)]) (.same rfl .nil) ?_
    refine Fin.next ?_
    refine Tr.ret ?_
    refine Fin.retI (rs := [_]) (Rs' := [is (.bool true)]) rfl (.cons (.tmp rfl) .nil) (.cons (L.iv ?_) .nil)
    · exact congrArg Value.bool (by decide +kernel)

/- tidepool/tidepooltop.TopHandles -/
set_option maxRecDepth 100000 in
theorem F4 (hz : List Hg) (hl0 : hz.length ≤ maxLen) (hh0 : ∀ q ∈ hz, okG q) : FnP Try.prog 4 [Lst gripR hz] (is (.bool true)) := by
  refine FnP.mk' Try.func4 T.nm4 rfl (N := 18) rfl rfl fun B hB hκ => ?_
  refine Tr.seq ?_
  refine Tr.region ?_
  refine TrL.stepS 2 (.plain rfl (.assign rfl (.of rfl))) rfl rfl ?_
  refine TrL.nil ?_
  refine Fin.keepG (Γ' := [(0, _)]) (.same rfl .nil) ?_
  refine Fin.next ?_
  refine Tr.seq ?_
  refine Tr.seq ?_
  refine Tr.region ?_
  refine TrL.stepS 5 (.plain rfl (.move rfl (.of rfl))) rfl rfl ?_
  refine TrL.stepS 6 (.plain rfl (.len rfl (.of rfl) Try.underlying38)) rfl rfl ?_
  refine TrL.stepS 7 (.plain rfl (.gtr rfl (.of rfl) (.of rfl))) rfl rfl ?_
  refine TrL.nil ?_
  refine Fin.keepG (Γ' := [(0, _), (7, _)]) (.same rfl (.same rfl .nil)) ?_
  refine Fin.next ?_
  refine Tr.cond rfl (fun hb0 => ?_) (fun hb0 => ?_)
  · try simp only [decide_eq_true_eq, decide_eq_false_iff_not, beq_iff_eq, beq_eq_false_iff_ne, bne_iff_ne, bne_eq_false_iff_eq, Bool.and_eq_true, Bool.and_eq_false_iff, Bool.or_eq_true, Bool.or_eq_false_iff, Bool.not_eq_true', Bool.not_eq_false', gt_iff_lt, ge_iff_le, Int.not_lt, Int.not_le, ne_eq, Int.natCast_nonneg, true_and, and_true, Decidable.not_not, not_true_eq_false, not_false_eq_true] at hb0
    refine Tr.seq ?_
    refine Tr.region ?_
    refine TrL.stepS 8 (.plain rfl (.call rfl F16 .nil)) rfl rfl ?_
    refine TrL.stepS 2 (.plain rfl (.assign rfl (.of rfl))) rfl rfl ?_
    refine TrL.nil ?_
    refine Fin.keepG (Γ' := [(2, _)]) (.same rfl .nil) ?_
    refine Fin.next ?_
    refine Tr.ret ?_
    refine Fin.thenRet ?_
    exact Fin.retI (rs := [_]) (Rs' := [is (.bool true)]) rfl (.cons (.tmp rfl) .nil) (.cons (L.iv rfl) .nil)
  · try simp only [decide_eq_true_eq, decide_eq_false_iff_not, beq_iff_eq, beq_eq_false_iff_ne, bne_iff_ne, bne_eq_false_iff_eq, Bool.and_eq_true, Bool.and_eq_false_iff, Bool.or_eq_true, Bool.or_eq_false_iff, Bool.not_eq_true', Bool.not_eq_false', gt_iff_lt, ge_iff_le, Int.not_lt, Int.not_le, ne_eq, Int.natCast_nonneg, true_and, and_true, Decidable.not_not, not_true_eq_false, not_false_eq_true] at hb0
    refine Tr.skip ?_
    refine Fin.next ?_
    refine Tr.seq ?_
    refine Tr.region ?_
    refine TrL.stepS 10 (.plain rfl (.move rfl (.of rfl))) rfl rfl ?_
    refine TrL.stepS 11 (.plain rfl (.call rfl (F17 hz (by omega) hh0) (.cons (.of rfl) .nil))) rfl rfl ?_
    refine TrL.stepS 9 (.plain rfl (.move rfl (.of rfl))) rfl rfl ?_
    refine TrL.stepS 12 (.plain rfl (.extract rfl (.of rfl) rfl)) rfl rfl ?_
    refine TrL.stepS 13 (.plain rfl (.extract rfl (.of rfl) rfl)) rfl rfl ?_
    refine TrL.stepS 3 (.plain rfl (.assign rfl (.of rfl))) rfl rfl ?_
    refine TrL.stepS 4 (.plain rfl (.assign rfl (.of rfl))) rfl rfl ?_
    refine TrL.nil ?_
    refine Fin.keepG (Γ' := [(4, _)]) (.same rfl .nil) ?_
    refine Fin.next ?_
    refine Tr.seq ?_
    refine Tr.region ?_
    refine TrL.stepS 14 (.plain rfl (.move rfl (.of rfl))) rfl rfl ?_
    refine TrL.stepS 15 (.plain rfl (.move rfl (.of rfl))) rfl rfl ?_
    refine TrL.stepS 16 (.guarded rfl rfl rfl fun hg => .call rfl F16 .nil) rfl rfl ?_
    refine TrL.stepS 17 (.plain rfl (.and rfl (.of rfl) (.cond rfl fun h => h))) rfl rfl ?_
    refine TrL.stepS 2 (.plain rfl (.assign rfl (.of rfl))) rfl rfl ?_
    refine TrL.nil ?_
    refine Fin.keepG (Γ' := [(2, _)]) (.same rfl .nil) ?_
    refine Fin.next ?_
    refine Tr.ret ?_
    exact Fin.retI (rs := [_]) (Rs' := [is (.bool true)]) rfl (.cons (.tmp rfl) .nil) (.cons (L.iv rfl) .nil)

end Go.Proofs.Ytemkogoclljhpaa