import Derived.Test.YtemkogoclljhpaaSB
namespace Go.Proofs.Ytemkogoclljhpaa
open Go Go.Proofs.Ytemkogoclljhpaa.L
set_option linter.unusedVariables false
set_option linter.unusedSimpArgs false

namespace T
theorem SCbd49_0_1_2_3 (c0 : ByteArray) (c1 : Int) (c2 : Int) (c3 : Int) : Try.prog.built 49 [(0, .string c0), (1, .int .i8 c1), (2, .int .i8 c2), (3, .int .i64 c3)] = some #[.string c0, .int .i8 c1, .int .i8 c2, .int .i64 c3] := by kernel_rfl
theorem SCbd122  : Try.prog.built 122 [] = some #[.int .i64 0, .int .i64 0, .int .i64 0, .int .i64 0] := by kernel_rfl
theorem SCbd122_0_1_2_3 (c0 : Int) (c1 : Int) (c2 : Int) (c3 : Int) : Try.prog.built 122 [(0, .int .i64 c0), (1, .int .i64 c1), (2, .int .i64 c2), (3, .int .i64 c3)] = some #[.int .i64 c0, .int .i64 c1, .int .i64 c2, .int .i64 c3] := by kernel_rfl
end T


/- tidepool/tidepooltop.known33b -/
set_option maxRecDepth 100000 in
theorem F20  : FnP Try.prog 20 [] (is (.bool true)) := by
  refine FnP.mk' Try.func20 T.nm20 rfl (N := 164) rfl rfl fun B hB hκ => ?_
  refine Tr.seq ?_
  refine Tr.region ?_
  refine TrL.stepS 0 (.plain rfl (.assign rfl (.of rfl))) rfl rfl ?_
  refine TrL.nil ?_
  refine Fin.keepG (Γ' := []) .nil ?_
  refine Fin.next ?_
  refine Tr.seq ?_
  refine Tr.region ?_
  refine TrL.stepS 20 (.plain rfl (.call rfl (F70 9223372036854775807 1 (by omega) (by omega)) (.cons (.of rfl) (.cons (.of rfl) .nil)))) rfl rfl ?_
  refine TrL.stepS 19 (.plain rfl (.move rfl (.of rfl))) rfl rfl ?_
  refine TrL.stepS 21 (.plain rfl (.extract rfl (.of rfl) rfl)) rfl rfl ?_
  refine TrL.stepS 22 (.plain rfl (.extract rfl (.of rfl) rfl)) rfl rfl ?_
  refine TrL.stepS 1 (.plain rfl (.assign rfl (.of rfl))) rfl rfl ?_
  refine TrL.stepS 2 (.plain rfl (.assign rfl (.of rfl))) rfl rfl ?_
  refine TrL.nil ?_
  refine Fin.keepG (Γ' := [(2, _)]) (.same rfl .nil) ?_
  refine Fin.next ?_
  refine Tr.seq ?_
  refine Tr.region ?_
  refine TrL.stepS 24 (.plain rfl (.call rfl (F71 (-9223372036854775808) 1 (by omega) (by omega)) (.cons (.of rfl) (.cons (.of rfl) .nil)))) rfl rfl ?_
  refine TrL.stepS 23 (.plain rfl (.move rfl (.of rfl))) rfl rfl ?_
  refine TrL.stepS 25 (.plain rfl (.extract rfl (.of rfl) rfl)) rfl rfl ?_
  refine TrL.stepS 26 (.plain rfl (.extract rfl (.of rfl) rfl)) rfl rfl ?_
  refine TrL.stepS 3 (.plain rfl (.assign rfl (.of rfl))) rfl rfl ?_
  refine TrL.stepS 4 (.plain rfl (.assign rfl (.of rfl))) rfl rfl ?_
  refine TrL.nil ?_
  refine Fin.keepG (Γ' := [(2, _), (4, _)]) (.same rfl (.same rfl .nil)) ?_
  refine Fin.next ?_
  refine Tr.seq ?_
  refine Tr.region ?_
  refine TrL.stepS 28 (.plain rfl (.call rfl (F72 4294967296 2147483648 (by omega) (by omega)) (.cons (.of rfl) (.cons (.of rfl) .nil)))) rfl rfl ?_
  refine TrL.stepS 27 (.plain rfl (.move rfl (.of rfl))) rfl rfl ?_
  refine TrL.stepS 29 (.plain rfl (.extract rfl (.of rfl) rfl)) rfl rfl ?_
  refine TrL.stepS 30 (.plain rfl (.extract rfl (.of rfl) rfl)) rfl rfl ?_
  refine TrL.stepS 5 (.plain rfl (.assign rfl (.of rfl))) rfl rfl ?_
  refine TrL.stepS 6 (.plain rfl (.assign rfl (.of rfl))) rfl rfl ?_
  refine TrL.nil ?_
  refine Fin.keepG (Γ' := [(2, _), (4, _), (6, _)]) (.same rfl (.same rfl (.same rfl .nil))) ?_
  refine Fin.next ?_
  refine Tr.seq ?_
  refine Tr.region ?_
  refine TrL.stepS 32 (.plain rfl (.slice (K := (intR .i64)) (xs := [_, _, _]) rfl (.cons (.map (.of rfl) (intR_elem _)) (.cons (.map (.of rfl) (intR_elem _)) (.cons (.map (.of rfl) (intR_elem _)) .nil))) Try.underlying24 T.sz2 T.zb2 rfl (by decide))) rfl rfl ?_
  refine TrL.stepS 33 (.plain rfl (.call rfl (F73 [9223372036854775807, 1, -1] (by simp) (by simp)) (.cons (.of rfl) .nil))) rfl rfl ?_
  refine TrL.stepS 31 (.plain rfl (.move rfl (.of rfl))) rfl rfl ?_
  refine TrL.stepS 34 (.plain rfl (.extract rfl (.of rfl) rfl)) rfl rfl ?_
  refine TrL.stepS 35 (.plain rfl (.extract rfl (.of rfl) rfl)) rfl rfl ?_
  refine TrL.stepS 7 (.plain rfl (.assign rfl (.of rfl))) rfl rfl ?_
  refine TrL.stepS 8 (.plain rfl (.assign rfl (.of rfl))) rfl rfl ?_
  refine TrL.nil ?_
  refine Fin.keepG (Γ' := [(2, _), (4, _), (6, _), (7, _), (8, _)]) (.same rfl (.same rfl (.same rfl (.same rfl (.same rfl .nil))))) ?_
  refine Fin.next ?_
  refine Tr.seq ?_
  refine Tr.region ?_
  refine TrL.stepS 37 (.plain rfl (.call rfl (F74 (-7) 3 (by omega) (by omega)) (.cons (.of rfl) (.cons (.of rfl) .nil)))) rfl rfl ?_
  refine TrL.stepS 36 (.plain rfl (.move rfl (.of rfl))) rfl rfl ?_
  refine TrL.stepS 38 (.plain rfl (.extract rfl (.of rfl) rfl)) rfl rfl ?_
  refine TrL.stepS 39 (.plain rfl (.extract rfl (.of rfl) rfl)) rfl rfl ?_
  refine TrL.stepS 9 (.plain rfl (.assign rfl (.of rfl))) rfl rfl ?_
  refine TrL.stepS 10 (.plain rfl (.assign rfl (.of rfl))) rfl rfl ?_
  refine TrL.nil ?_
  refine Fin.keepG (Γ' := [(2, _), (4, _), (6, _), (7, _), (8, _), (9, _), (10, _)]) (.same rfl (.same rfl (.same rfl (.same rfl (.same rfl (.same rfl (.same rfl .nil))))))) ?_
  refine Fin.next ?_
  refine Tr.seq ?_
  refine Tr.region ?_
  refine TrL.stepS 41 (.plain rfl (.call rfl (F75 (-7) 3 (by omega)) (.cons (.of rfl) (.cons (.of rfl) .nil)))) rfl rfl ?_
  refine TrL.stepS 40 (.plain rfl (.move rfl (.of rfl))) rfl rfl ?_
  refine TrL.stepS 42 (.plain rfl (.extract rfl (.of rfl) rfl)) rfl rfl ?_
  refine TrL.stepS 43 (.plain rfl (.extract rfl (.of rfl) rfl)) rfl rfl ?_
  refine TrL.stepS 11 (.plain rfl (.assign rfl (.of rfl))) rfl rfl ?_
  refine TrL.stepS 12 (.plain rfl (.assign rfl (.of rfl))) rfl rfl ?_
  refine TrL.nil ?_
  refine Fin.keepG (Γ' := [(2, _), (4, _), (6, _), (7, _), (8, _), (9, _), (10, _), (11, _), (12, _)]) (.same rfl (.same rfl (.same rfl (.same rfl (.same rfl (.same rfl (.same rfl (.same rfl (.same rfl .nil))))))))) ?_
  refine Fin.next ?_
  refine Tr.seq ?_
  refine Tr.region ?_
  refine TrL.stepS 45 (.plain rfl (.call rfl (F76 (-7) 3 (by omega) (by omega)) (.cons (.of rfl) (.cons (.of rfl) .nil)))) rfl rfl ?_
  refine TrL.stepS 44 (.plain rfl (.move rfl (.of rfl))) rfl rfl ?_
  refine TrL.stepS 46 (.plain rfl (.extract rfl (.of rfl) rfl)) rfl rfl ?_
  refine TrL.stepS 47 (.plain rfl (.extract rfl (.of rfl) rfl)) rfl rfl ?_
  refine TrL.stepS 13 (.plain rfl (.assign rfl (.of rfl))) rfl rfl ?_
  refine TrL.stepS 14 (.plain rfl (.assign rfl (.of rfl))) rfl rfl ?_
  refine TrL.nil ?_
  refine Fin.keepG (Γ' := [(2, _), (4, _), (6, _), (7, _), (8, _), (9, _), (10, _), (11, _), (12, _), (13, _), (14, _)]) (.same rfl (.same rfl (.same rfl (.same rfl (.same rfl (.same rfl (.same rfl (.same rfl (.same rfl (.same rfl (.same rfl .nil))))))))))) ?_
  refine Fin.next ?_
  refine Tr.seq ?_
  refine Tr.seq ?_
  refine Tr.region ?_
  refine TrL.stepS 48 (.plain rfl (.move rfl (.of rfl))) rfl rfl ?_
  refine TrL.stepS 49 (.plain rfl (.move rfl (.of rfl))) rfl rfl ?_
  refine TrL.stepS 50 (.guarded rfl rfl rfl fun hg => .move rfl (.of rfl)) rfl rfl ?_
  refine TrL.stepS 51 (.plain rfl (.or rfl (.of rfl) (.cond rfl fun h => h))) rfl rfl ?_
  refine TrL.stepS 52 (.plain rfl (.move rfl (.of rfl))) rfl rfl ?_
  refine TrL.stepS 53 (.guarded rfl rfl rfl fun hg => .move rfl (.of rfl)) rfl rfl ?_
  refine TrL.stepS 54 (.plain rfl (.or rfl (.of rfl) (.cond rfl fun h => h))) rfl rfl ?_
  refine TrL.stepS 55 (.plain rfl (.move rfl (.of rfl))) rfl rfl ?_
  refine TrL.stepS 56 (.guarded rfl rfl rfl fun hg => .move rfl (.of rfl)) rfl rfl ?_
  refine TrL.stepS 57 (.guarded rfl rfl rfl fun hg => .neq rfl (.cond rfl hg) (.of rfl)) rfl rfl ?_
  refine TrL.stepS 58 (.plain rfl (.or rfl (.of rfl) (.cond rfl fun h => h))) rfl rfl ?_
  refine TrL.stepS 59 (.plain rfl (.move rfl (.of rfl))) rfl rfl ?_
  refine TrL.stepS 60 (.guarded rfl rfl rfl fun hg => .move rfl (.of rfl)) rfl rfl ?_
  refine TrL.stepS 61 (.guarded rfl rfl rfl fun hg => .neq rfl (.cond rfl hg) (.of rfl)) rfl rfl ?_
  refine TrL.stepS 62 (.plain rfl (.or rfl (.of rfl) (.cond rfl fun h => h))) rfl rfl ?_
  refine TrL.stepS 63 (.plain rfl (.move rfl (.of rfl))) rfl rfl ?_
  refine TrL.stepS 64 (.guarded rfl rfl rfl fun hg => .move rfl (.of rfl)) rfl rfl ?_
  refine TrL.stepS 65 (.guarded rfl rfl rfl fun hg => .neq rfl (.cond rfl hg) (.of rfl)) rfl rfl ?_
  refine TrL.stepS 66 (.plain rfl (.or rfl (.of rfl) (.cond rfl fun h => h))) rfl rfl ?_
  refine TrL.stepS 67 (.plain rfl (.move rfl (.of rfl))) rfl rfl ?_
  refine TrL.stepS 68 (.guarded rfl rfl rfl fun hg => .move rfl (.of rfl)) rfl rfl ?_
  refine TrL.stepS 69 (.guarded rfl rfl rfl fun hg => .neq rfl (.cond rfl hg) (.of rfl)) rfl rfl ?_
  refine TrL.stepS 70 (.plain rfl (.or rfl (.of rfl) (.cond rfl fun h => h))) rfl rfl ?_
  refine TrL.stepS 71 (.plain rfl (.move rfl (.of rfl))) rfl rfl ?_
  refine TrL.stepS 72 (.guarded rfl rfl rfl fun hg => .move rfl (.of rfl)) rfl rfl ?_
  refine TrL.stepS 73 (.guarded rfl rfl rfl fun hg => .neq rfl (.cond rfl hg) (.of rfl)) rfl rfl ?_
  refine TrL.stepS 74 (.plain rfl (.or rfl (.of rfl) (.cond rfl fun h => h))) rfl rfl ?_
  refine TrL.stepS 75 (.plain rfl (.move rfl (.of rfl))) rfl rfl ?_
  refine TrL.stepS 76 (.guarded rfl rfl rfl fun hg => .move rfl (.of rfl)) rfl rfl ?_
  refine TrL.stepS 77 (.guarded rfl rfl rfl fun hg => .neq rfl (.cond rfl hg) (.of rfl)) rfl rfl ?_
  refine TrL.stepS 78 (.plain rfl (.or rfl (.of rfl) (.cond rfl fun h => h))) rfl rfl ?_
  refine TrL.stepS 79 (.plain rfl (.move rfl (.of rfl))) rfl rfl ?_
  refine TrL.stepS 80 (.guarded rfl rfl rfl fun hg => .move rfl (.of rfl)) rfl rfl ?_
  refine TrL.stepS 81 (.guarded rfl rfl rfl fun hg => .neq rfl (.cond rfl hg) (.of rfl)) rfl rfl ?_
  refine TrL.stepS 82 (.plain rfl (.or rfl (.of rfl) (.cond rfl fun h => h))) rfl rfl ?_
  refine TrL.stepS 83 (.plain rfl (.move rfl (.of rfl))) rfl rfl ?_
  refine TrL.stepS 84 (.guarded rfl rfl rfl fun hg => .move rfl (.of rfl)) rfl rfl ?_
  refine TrL.stepS 85 (.guarded rfl rfl rfl fun hg => .neq rfl (.cond rfl hg) (.of rfl)) rfl rfl ?_
  refine TrL.stepS 86 (.plain rfl (.or rfl (.of rfl) (.cond rfl fun h => h))) rfl rfl ?_
  refine TrL.stepS 87 (.plain rfl (.move rfl (.of rfl))) rfl rfl ?_
  refine TrL.stepS 88 (.guarded rfl rfl rfl fun hg => .call rfl (F77 5 1 3) (.cons (.of rfl) (.cons (.of rfl) (.cons (.of rfl) .nil)))) rfl rfl ?_
  refine TrL.stepS 89 (.guarded rfl rfl rfl fun hg => .neq rfl (.cond rfl hg) (.of rfl)) rfl rfl ?_
  refine TrL.stepS 90 (.plain rfl (.or rfl (.of rfl) (.cond rfl fun h => h))) rfl rfl ?_
  refine TrL.stepS 91 (.plain rfl (.move rfl (.of rfl))) rfl rfl ?_
  refine TrL.stepS 92 (.guarded rfl rfl rfl fun hg => .call rfl (F77 5 9 3) (.cons (.of rfl) (.cons (.of rfl) (.cons (.of rfl) .nil)))) rfl rfl ?_
  refine TrL.stepS 93 (.guarded rfl rfl rfl fun hg => .neq rfl (.cond rfl hg) (.of rfl)) rfl rfl ?_
  refine TrL.stepS 94 (.plain rfl (.or rfl (.of rfl) (.cond rfl fun h => h))) rfl rfl ?_
  refine TrL.nil ?_
  refine Fin.keepG (Γ' := [(94, _)]) (.same rfl .nil) ?_
  refine Fin.next ?_
  refine Tr.cond rfl (fun hb0 => ?_) (fun hb0 => ?_)
  · try simp only [true_and] at hb0
    exfalso; revert hb0; decide
  · try simp only [true_and] at hb0
    refine Tr.skip ?_
    refine Fin.next ?_
    refine Tr.seq ?_
    refine Tr.region ?_
    refine TrL.stepS 96 (.plain rfl (.slice (K := (intR .i64)) (xs := [_, _, _]) rfl (.cons (.map (.of rfl) (intR_elem _)) (.cons (.map (.of rfl) (intR_elem _)) (.cons (.map (.of rfl) (intR_elem _)) .nil))) Try.underlying24 T.sz2 T.zb2 rfl (by decide))) rfl rfl ?_
    refine TrL.stepS 97 (.plain rfl (.call rfl (F78 [3, -1, 5] (by simp) (by simp)) (.cons (.of rfl) .nil))) rfl rfl ?_
    refine TrL.stepS 95 (.plain rfl (.move rfl (.of rfl))) rfl rfl ?_
    refine TrL.stepS 98 (.plain rfl (.extract rfl (.of rfl) rfl)) rfl rfl ?_
    refine TrL.stepS 99 (.plain rfl (.extract rfl (.of rfl) rfl)) rfl rfl ?_
    refine TrL.allocS 20 (zs := [.int .i64 0, .int .i64 0, .int .i64 0, .int .i64 0]) rfl rfl (by kernel_rfl) 15 rfl rfl rfl fun b20 => ?_
    refine TrL.storeW 20 (vs := [_, _, _, _]) rfl rfl rfl (.of rfl) (.of rfl) rfl rfl T.sz122 rfl rfl ?_
    refine TrL.stepS 8 (.plain rfl (.assign rfl (.of rfl))) rfl rfl ?_
    refine TrL.nil ?_
    refine Fin.keepG (Γ' := [(8, _), (15, _)]) (.same rfl (.same rfl .nil)) ?_
    refine Fin.next ?_
    refine Tr.seq ?_
    refine Tr.region ?_
    refine TrL.stepS 101 (.plain rfl (.call rfl (F79 9223372036854775807) (.cons (.of rfl) .nil))) rfl rfl ?_
    refine TrL.stepS 102 (.plain rfl (.call rfl (F80 (1, 9223372036854775807, 9223372036854775807, 9223372036854775807) 1 (by simp [okA]) (by omega)) (.cons (.of rfl) (.cons (.of rfl) .nil)))) rfl rfl ?_
    refine TrL.stepS 100 (.plain rfl (.move rfl (.of rfl))) rfl rfl ?_
    refine TrL.stepS 103 (.plain rfl (.extract rfl (.of rfl) rfl)) rfl rfl ?_
    refine TrL.stepS 104 (.plain rfl (.extract rfl (.of rfl) rfl)) rfl rfl ?_
    refine TrL.stepS 10 (.plain rfl (.assign rfl (.of rfl))) rfl rfl ?_
    refine TrL.nil ?_
    refine Fin.keepG (Γ' := [(8, _), (10, _), (15, _)]) (.same rfl (.same rfl (.same rfl .nil))) ?_
    refine Fin.next ?_
    refine Tr.seq ?_
    refine Tr.region ?_
    refine TrL.stepS 106 (.plain rfl (.slice (K := (intR .i64)) (xs := [_, _]) rfl (.cons (.map (.of rfl) (intR_elem _)) (.cons (.map (.of rfl) (intR_elem _)) .nil)) Try.underlying24 T.sz2 T.zb2 rfl (by decide))) rfl rfl ?_
    refine TrL.stepS 107 (.plain rfl (.call rfl (F78 [3, -1] (by simp) (by simp)) (.cons (.of rfl) .nil))) rfl rfl ?_
    refine TrL.stepS 105 (.plain rfl (.move rfl (.of rfl))) rfl rfl ?_
    refine TrL.stepS 108 (.plain rfl (.extract rfl (.of rfl) rfl)) rfl rfl ?_
    refine TrL.stepS 109 (.plain rfl (.extract rfl (.of rfl) rfl)) rfl rfl ?_
    refine TrL.allocS 21 (zs := [.int .i64 0, .int .i64 0, .int .i64 0, .int .i64 0]) rfl rfl (by kernel_rfl) 16 rfl rfl rfl fun b21 => ?_
    refine TrL.storeW 21 (vs := [_, _, _, _]) rfl rfl rfl (.of rfl) (.of rfl) rfl rfl T.sz122 rfl rfl ?_
    refine TrL.stepS 17 (.plain rfl (.assign rfl (.of rfl))) rfl rfl ?_
    refine TrL.nil ?_
    refine Fin.keepG (Γ' := [(8, _), (10, _), (15, _), (16, _)]) (.same rfl (.same rfl (.same rfl (.same rfl .nil)))) ?_
    refine Fin.next ?_
    refine Tr.seq ?_
    refine Tr.regionW [([21], [], []), ([], [], []), ([], [], []), ([], [], []), ([], [], []), ([], [], []), ([], [], []), ([], [], []), ([], [22], [18]), ([22], [22], [18]), ([], [], [])] T.mixed (by kernel_rfl) (by kernel_rfl) (by kernel_rfl) (by kernel_rfl) ?_
    refine AChain.rd 111 rfl (fun σ => .plain rfl (.loadBN 21 (k := 4) (ds := [_, _, _, _]) rfl (.of rfl) rfl rfl rfl T.ag122 rfl)) rfl rfl (fun _ _ => rfl) (L.Dep.const) ?_
    refine AChain.rd 112 rfl (fun σ => .plain rfl (.build rfl .nil (T.SCbd122))) rfl rfl (fun _ _ => rfl) (L.Dep.const) ?_
    refine AChain.rd 113 rfl (fun σ => .plain rfl (.call rfl (F79 5) (.cons (.of rfl) .nil))) rfl rfl (fun _ _ => rfl) (L.Dep.const) ?_
    refine AChain.rd 114 rfl (fun σ => .plain rfl (.slice (K := aggR) (xs := [_, _, _]) rfl (.cons (.map (.of rfl) (aggR_elem' _ _ _ _)) (.cons (.map (.of rfl) (aggR_elem' _ _ _ _)) (.cons (.map (.of rfl) (aggR_elem' _ _ _ _)) .nil))) Try.underlying210 T.sz122 T.zb122 rfl (by decide))) rfl rfl (fun _ _ => rfl) (L.Dep.const) ?_
    refine AChain.rd 115 rfl (fun σ => .plain rfl (.call rfl (F81 [aggOf [3, -1], (0, 0, 0, 0), (1, 5, 5, 5)] (by simp) (by simp only [List.mem_cons, List.not_mem_nil, or_false]; rintro y (rfl | rfl | rfl) <;> (first | exact okA_agg _ (by simp) | simp [okA]))) (.cons (.of rfl) .nil))) rfl rfl (fun _ _ => rfl) (L.Dep.const) ?_
    refine AChain.rd 110 rfl (fun σ => .plain rfl (.move rfl (.of rfl))) rfl rfl (fun _ _ => rfl) (L.Dep.const) ?_
    refine AChain.rd 116 rfl (fun σ => .plain rfl (.extract rfl (.of rfl) rfl)) rfl rfl (fun _ _ => rfl) (L.Dep.const) ?_
    refine AChain.rd 117 rfl (fun σ => .plain rfl (.extract rfl (.of rfl) rfl)) rfl rfl (fun _ _ => rfl) (L.Dep.const) ?_
    refine AChain.allocD 22 18 (zs := [.int .i64 0, .int .i64 0, .int .i64 0, .int .i64 0]) rfl rfl rfl rfl rfl rfl (by kernel_rfl) (L.depS (by decide)) (L.depP (by decide)) ?_
    refine AChain.storeDA (vs := [_, _, _, _]) 22 18 rfl rfl rfl rfl rfl (fun σ _ => (.of rfl)) (fun σ _ => (.of rfl)) rfl (fun σ => rfl) T.sz122 rfl (L.depP (by decide)) ?_
    refine AChain.rd 12 rfl (fun σ => .plain rfl (.assign rfl (.of rfl))) rfl rfl (fun _ _ => rfl) (L.Dep.const) ?_
    refine AChain.nil ?_
    intro s13
    refine Fin.openPB (vs := [_, _, _, _]) 22 18 rfl rfl rfl fun b18 hb18_ => ?_
    refine Fin.keepG (Γ' := [(8, _), (10, _), (12, _), (15, _), (18, _)]) (.same rfl (.same rfl (.same rfl (.same rfl (.same rfl .nil))))) ?_
    refine Fin.next ?_
    refine Tr.seq ?_
    refine Tr.seq ?_
    refine Tr.region ?_
    refine TrL.stepS 118 (.plain rfl (.move rfl (.of rfl))) rfl rfl ?_
    refine TrL.stepS 119 (.plain rfl (.neq rfl (.of rfl) (.of rfl))) rfl rfl ?_
    refine TrL.stepS 120 (.plain rfl (.move rfl (.of rfl))) rfl rfl ?_
    refine TrL.stepS 121 (.guarded rfl rfl rfl fun hg => .loadBN 20 (k := 4) (ds := [_, _, _, _]) rfl (.of rfl) rfl rfl rfl T.ag122 rfl) rfl rfl ?_
    refine TrL.stepS 122 (.guarded rfl rfl rfl fun hg => .build rfl (.cons (.of rfl) (.cons (.of rfl) (.cons (.of rfl) (.cons (.of rfl) .nil)))) (T.SCbd122_0_1_2_3 _ _ _ _)) rfl rfl ?_
    refine TrL.stepS 123 (.guarded rfl rfl rfl fun hg => .neqS rfl (.cond rfl hg) (.cond rfl hg) (by kernel_rfl) (T.eq122 _ _ _ _ _ _ _ _)) rfl rfl ?_
    refine TrL.stepS 124 (.plain rfl (.or rfl (.of rfl) (.cond rfl fun h => h))) rfl rfl ?_
    refine TrL.stepS 125 (.plain rfl (.move rfl (.of rfl))) rfl rfl ?_
    refine TrL.stepS 126 (.guarded rfl rfl rfl fun hg => .move rfl (.of rfl)) rfl rfl ?_
    refine TrL.stepS 127 (.guarded rfl rfl rfl fun hg => .neq rfl (.cond rfl hg) (.of rfl)) rfl rfl ?_
    refine TrL.stepS 128 (.plain rfl (.or rfl (.of rfl) (.cond rfl fun h => h))) rfl rfl ?_
    refine TrL.stepS 129 (.plain rfl (.move rfl (.of rfl))) rfl rfl ?_
    refine TrL.stepS 130 (.guarded rfl rfl rfl fun hg => .move rfl (.of rfl)) rfl rfl ?_
    refine TrL.stepS 131 (.guarded rfl rfl rfl fun hg => .neq rfl (.cond rfl hg) (.of rfl)) rfl rfl ?_
    refine TrL.stepS 132 (.plain rfl (.or rfl (.of rfl) (.cond rfl fun h => h))) rfl rfl ?_
    refine TrL.stepS 133 (.plain rfl (.move rfl (.of rfl))) rfl rfl ?_
    refine TrL.stepS 134 (.guarded rfl rfl rfl fun hg => .loadBN 22 (k := 4) (ds := [_, _, _, _]) rfl (.of rfl) rfl rfl rfl T.ag122 rfl) rfl rfl ?_
    refine TrL.stepS 135 (.guarded rfl rfl rfl fun hg => .loadBN 20 (k := 4) (ds := [_, _, _, _]) rfl (.of rfl) rfl rfl rfl T.ag122 rfl) rfl rfl ?_
    refine TrL.stepS 136 (.guarded rfl rfl rfl fun hg => .neqS rfl (.cond rfl hg) (.cond rfl hg) (by kernel_rfl) (T.eq122 _ _ _ _ _ _ _ _)) rfl rfl ?_
    refine TrL.stepS 137 (.plain rfl (.or rfl (.of rfl) (.cond rfl fun h => h))) rfl rfl ?_
    refine TrL.nil ?_
    refine Fin.keepG (Γ' := [(137, _)]) (.same rfl .nil) ?_
    refine Fin.next ?_
    refine Tr.cond rfl (fun hb1 => ?_) (fun hb1 => ?_)
    · try simp only [true_and] at hb1
      exfalso; revert hb1; decide
    · try simp only [true_and] at hb1
      refine Tr.skip ?_
      refine Fin.next ?_
      refine Tr.seq ?_
      refine Tr.region ?_
      refine TrL.stepS 138 (.plain rfl (.slice (K := (intR .i64)) (xs := [_, _, _]) rfl (.cons (.map (.of rfl) (intR_elem _)) (.cons (.map (.of rfl) (intR_elem _)) (.cons (.map (.of rfl) (intR_elem _)) .nil))) Try.underlying24 T.sz2 T.zb2 rfl (by decide))) rfl rfl ?_
      refine TrL.stepS 139 (.plain rfl (.call rfl (F21 (-7) 9 3 [9223372036854775807, 1, -1] (by omega) (by omega) (by omega) (by simp) (by simp)) (.cons (.of rfl) (.cons (.of rfl) (.cons (.of rfl) (.cons (.of rfl) .nil)))))) rfl rfl ?_
      refine TrL.stepS 140 (.plain rfl (.move rfl (.of rfl))) rfl rfl ?_
      refine TrL.stepS 141 (.guarded rfl rfl rfl fun hg => .slice (K := (intR .i64)) (xs := [_, _]) rfl (.cons (.map (.of rfl) (intR_elem _)) (.cons (.map (.of rfl) (intR_elem _)) .nil)) Try.underlying24 T.sz2 T.zb2 rfl (by decide)) rfl rfl ?_
      refine TrL.stepS 142 (.guarded rfl rfl rfl fun hg => .call rfl (F21 (-9223372036854775808) (-9223372036854775808) 3 [-9223372036854775808, -1] (by omega) (by omega) (by omega) (by simp) (by simp)) (.cons (.of rfl) (.cons (.of rfl) (.cons (.of rfl) (.cons (.cond rfl hg) .nil))))) rfl rfl ?_
      refine TrL.stepS 143 (.plain rfl (.and rfl (.of rfl) (.cond rfl fun h => h))) rfl rfl ?_
      refine TrL.stepS 144 (.plain rfl (.move rfl (.of rfl))) rfl rfl ?_
      refine TrL.stepS 145 (.guarded rfl rfl rfl fun hg => .call rfl (F21 (-9223372036854775808) (-1) 0 [] (by omega) (by omega) (by omega) (by simp) (by simp)) (.cons (.of rfl) (.cons (.of rfl) (.cons (.of rfl) (.cons ((L.Has.of rfl).map fun _ _ h => L.lst_nil' h) .nil))))) rfl rfl ?_
      refine TrL.stepS 146 (.plain rfl (.and rfl (.of rfl) (.cond rfl fun h => h))) rfl rfl ?_
      refine TrL.stepS 147 (.plain rfl (.move rfl (.of rfl))) rfl rfl ?_
      refine TrL.stepS 148 (.guarded rfl rfl rfl fun hg => .slice (K := (intR .i64)) (xs := [_, _, _]) rfl (.cons (.map (.of rfl) (intR_elem _)) (.cons (.map (.of rfl) (intR_elem _)) (.cons (.map (.of rfl) (intR_elem _)) .nil))) Try.underlying24 T.sz2 T.zb2 rfl (by decide)) rfl rfl ?_
      refine TrL.stepS 149 (.guarded rfl rfl rfl fun hg => .slice (K := (intR .u8)) (xs := [_, _, _]) rfl (.cons (.map (.of rfl) (intR_elem _)) (.cons (.map (.of rfl) (intR_elem _)) (.cons (.map (.of rfl) (intR_elem _)) .nil))) Try.underlying46 T.sz5 T.zb5 rfl (by decide)) rfl rfl ?_
      refine TrL.stepS 150 (.guarded rfl rfl rfl fun hg => .call rfl (F22 [3, -1, 5] [0, 0, 1] (by simp) (by simp) (by simp) (by simp)) (.cons (.cond rfl hg) (.cons (.cond rfl hg) .nil))) rfl rfl ?_
      refine TrL.stepS 151 (.plain rfl (.and rfl (.of rfl) (.cond rfl fun h => h))) rfl rfl ?_
      refine TrL.stepS 152 (.plain rfl (.move rfl (.of rfl))) rfl rfl ?_
      refine TrL.stepS 153 (.guarded rfl rfl rfl fun hg => .slice (K := (intR .i64)) (xs := [_, _, _]) rfl (.cons (.map (.of rfl) (intR_elem _)) (.cons (.map (.of rfl) (intR_elem _)) (.cons (.map (.of rfl) (intR_elem _)) .nil))) Try.underlying24 T.sz2 T.zb2 rfl (by decide)) rfl rfl ?_
      refine TrL.stepS 154 (.guarded rfl rfl rfl fun hg => .call rfl (F22 [9223372036854775807, 1, -1] [] (by simp) (by simp) (by simp) (by simp)) (.cons (.cond rfl hg) (.cons ((L.Has.of rfl).map fun _ _ h => L.lst_nil' h) .nil))) rfl rfl ?_
      refine TrL.stepS 155 (.plain rfl (.and rfl (.of rfl) (.cond rfl fun h => h))) rfl rfl ?_
      refine TrL.stepS 156 (.plain rfl (.move rfl (.of rfl))) rfl rfl ?_
      refine TrL.stepS 157 (.guarded rfl rfl rfl fun hg => .build rfl (.cons (.of rfl) (.cons (.of rfl) (.cons (.of rfl) (.cons (.of rfl) .nil)))) (T.SCbd49_0_1_2_3 _ _ _ _)) rfl rfl ?_
      refine TrL.stepS 158 (.guarded rfl rfl rfl fun hg => .build rfl (.cons (.of rfl) (.cons (.of rfl) (.cons (.of rfl) (.cons (.of rfl) .nil)))) (T.SCbd49_0_1_2_3 _ _ _ _)) rfl rfl ?_
      refine TrL.stepS 159 (.guarded rfl rfl rfl fun hg => .build rfl (.cons (.of rfl) (.cons (.of rfl) (.cons (.of rfl) (.cons (.of rfl) .nil)))) (T.SCbd49_0_1_2_3 _ _ _ _)) rfl rfl ?_
      refine TrL.stepS 160 (.guarded rfl rfl rfl fun hg => .build rfl (.cons (.of rfl) (.cons (.of rfl) (.cons (.of rfl) (.cons (.of rfl) .nil)))) (T.SCbd49_0_1_2_3 _ _ _ _)) rfl rfl ?_
      refine TrL.stepS 161 (.guarded rfl rfl rfl fun hg => .slice (K := lineR) (xs := [_, _, _, _]) rfl (.cons (.map (.cond rfl hg) (lineR_elem _ _ _ _)) (.cons (.map (.cond rfl hg) (lineR_elem _ _ _ _)) (.cons (.map (.cond rfl hg) (lineR_elem _ _ _ _)) (.cons (.map (.cond rfl hg) (lineR_elem _ _ _ _)) .nil)))) Try.underlying47 T.sz49 T.zb49 rfl (by decide)) rfl rfl ?_
      refine TrL.stepS 162 (.guarded rfl rfl rfl fun hg => .call rfl (F23 _ (by simp)) (.cons (.cond rfl hg) .nil)) rfl rfl ?_
      refine TrL.stepS 163 (.plain rfl (.and rfl (.of rfl) (.cond rfl fun h => h))) rfl rfl ?_
      refine TrL.stepS 0 (.plain rfl (.assign rfl (.of rfl))) rfl rfl ?_
      refine TrL.nil ?_
      refine Fin.keepG (Γ' := [(0, _)]) (.same rfl .nil) ?_
      refine Fin.next ?_
      refine Tr.ret ?_
      exact Fin.retI (rs := [_]) (Rs' := [is (.bool true)]) rfl (.cons (.tmp rfl) .nil) (.cons (L.iv rfl) .nil)

/- tidepool/tidepooltop.TopSums -/
set_option maxRecDepth 100000 in
theorem F6 (a b d : Int) (xs ps : List Int) (ls : List Ln) (ha : -9223372036854775808 ≤ a ∧ a ≤ 9223372036854775807) (hb : -9223372036854775808 ≤ b ∧ b ≤ 9223372036854775807) (hd : -9223372036854775808 ≤ d ∧ d ≤ 9223372036854775807) (hx0 : ∀ x ∈ xs, -9223372036854775808 ≤ x ∧ x ≤ 9223372036854775807) (hp0 : ∀ p ∈ ps, 0 ≤ p ∧ p ≤ 255) (hll : ls.length ≤ maxLen) : FnP Try.prog 6 [is (.int .i64 a), is (.int .i64 b), is (.int .i64 d), Lst (intR .i64) xs, Lst (intR .u8) ps, Lst lineR ls] (is (.bool true)) := by
  refine FnP.mk' Try.func6 T.nm6 rfl (N := 58) rfl rfl fun B hB hκ => ?_
  refine Tr.seq ?_
  refine Tr.region ?_
  refine TrL.stepS 12 (.plain rfl (.assign rfl (.of rfl))) rfl rfl ?_
  refine TrL.nil ?_
  refine Fin.keepG (Γ' := [(0, _), (1, _), (2, _), (3, _), (4, _), (5, _)]) (.same rfl (.same rfl (.same rfl (.same rfl (.same rfl (.same rfl .nil)))))) ?_
  refine Fin.next ?_
  refine Tr.seq ?_
  refine Tr.seq ?_
  refine Tr.region ?_
  refine TrL.stepS 15 (.plain rfl (.move rfl (.of rfl))) rfl rfl ?_
  refine TrL.stepS 16 (.plain rfl (.len rfl (.of rfl) Try.underlying24)) rfl rfl ?_
  refine TrL.stepS 17 (.plain rfl (.gtr rfl (.of rfl) (.of rfl))) rfl rfl ?_
  refine TrL.stepS 18 (.plain rfl (.move rfl (.of rfl))) rfl rfl ?_
  refine TrL.stepS 19 (.guarded rfl rfl rfl fun hg => .move rfl (.of rfl)) rfl rfl ?_
  refine TrL.stepS 20 (.guarded rfl rfl rfl fun hg => .len rfl (.cond rfl hg) Try.underlying46) rfl rfl ?_
  refine TrL.stepS 21 (.guarded rfl rfl rfl fun hg => .gtr rfl (.cond rfl hg) (.of rfl)) rfl rfl ?_
  refine TrL.stepS 22 (.plain rfl (.or rfl (.of rfl) (.cond rfl fun h => h))) rfl rfl ?_
  refine TrL.stepS 23 (.plain rfl (.move rfl (.of rfl))) rfl rfl ?_
  refine TrL.stepS 24 (.guarded rfl rfl rfl fun hg => .move rfl (.of rfl)) rfl rfl ?_
  refine TrL.stepS 25 (.guarded rfl rfl rfl fun hg => .len rfl (.cond rfl hg) Try.underlying47) rfl rfl ?_
  refine TrL.stepS 26 (.guarded rfl rfl rfl fun hg => .gtr rfl (.cond rfl hg) (.of rfl)) rfl rfl ?_
  refine TrL.stepS 27 (.plain rfl (.or rfl (.of rfl) (.cond rfl fun h => h))) rfl rfl ?_
  refine TrL.nil ?_
  refine Fin.keepG (Γ' := [(0, _), (1, _), (2, _), (3, _), (4, _), (5, _), (27, _)]) (.same rfl (.same rfl (.same rfl (.same rfl (.same rfl (.same rfl (.same rfl .nil))))))) ?_
  refine Fin.next ?_
  refine Tr.cond rfl (fun hb0 => ?_) (fun hb0 => ?_)
  · try simp only [decide_eq_true_eq, decide_eq_false_iff_not, beq_iff_eq, beq_eq_false_iff_ne, bne_iff_ne, bne_eq_false_iff_eq, Bool.and_eq_true, Bool.and_eq_false_iff, Bool.or_eq_true, Bool.or_eq_false_iff, Bool.not_eq_true', Bool.not_eq_false', gt_iff_lt, ge_iff_le, Int.not_lt, Int.not_le, ne_eq, Int.natCast_nonneg, true_and, and_true, Decidable.not_not, not_true_eq_false, not_false_eq_true] at hb0
    refine Tr.seq ?_
    refine Tr.region ?_
    refine TrL.stepS 28 (.plain rfl (.call rfl F20 .nil)) rfl rfl ?_
    refine TrL.stepS 12 (.plain rfl (.assign rfl (.of rfl))) rfl rfl ?_
    refine TrL.nil ?_
    refine Fin.keepG (Γ' := [(12, _)]) (.same rfl .nil) ?_
    refine Fin.next ?_
    refine Tr.ret ?_
    refine Fin.thenRet ?_
    exact Fin.retI (rs := [_]) (Rs' := [is (.bool true)]) rfl (.cons (.tmp rfl) .nil) (.cons (L.iv rfl) .nil)
  · try simp only [decide_eq_true_eq, decide_eq_false_iff_not, beq_iff_eq, beq_eq_false_iff_ne, bne_iff_ne, bne_eq_false_iff_eq, Bool.and_eq_true, Bool.and_eq_false_iff, Bool.or_eq_true, Bool.or_eq_false_iff, Bool.not_eq_true', Bool.not_eq_false', gt_iff_lt, ge_iff_le, Int.not_lt, Int.not_le, ne_eq, Int.natCast_nonneg, true_and, and_true, Decidable.not_not, not_true_eq_false, not_false_eq_true] at hb0
    refine Tr.skip ?_
    refine Fin.next ?_
    refine Tr.seq ?_
    refine Tr.seq ?_
    refine Tr.region ?_
    refine TrL.stepS 29 (.plain rfl (.move rfl (.of rfl))) rfl rfl ?_
    refine TrL.stepS 30 (.plain rfl (.len rfl (.of rfl) Try.underlying47)) rfl rfl ?_
    refine TrL.stepS 31 (.plain rfl (.move rfl (.of rfl))) rfl rfl ?_
    refine TrL.nil ?_
    refine Fin.keepG (Γ' := [(0, _), (1, _), (2, _), (3, _), (4, _), (5, _), (29, _), (30, _), (31, _)]) (.same rfl (.same rfl (.same rfl (.same rfl (.same rfl (.same rfl (.same rfl (.same rfl (.same rfl .nil))))))))) ?_
    refine Fin.next ?_
    refine Tr.block ?_
    refine Tr.loopK (γ := Nat) (Γk := [(0, _), (1, _), (2, _), (3, _), (4, _), (5, _), (29, _), (30, _)]) (Mk := []) (.same rfl (.same rfl (.same rfl (.same rfl (.same rfl (.same rfl (.same rfl (.same rfl .nil)))))))) .nil (fun k => k ≤ ls.length) (fun k => fun r => r) (fun k => fun r => (31, is (.int .i64 k)) :: r) (fun k => ls.length - k) (0) ?h0_0 ?hM_0 ?hG_0 ?hl_0
    case h0_0 => exact Nat.zero_le _
    case hM_0 => exact .nil
    case hG_0 => exact (.eq rfl (by first | rfl | (congr 1; first | done | omega | (push_cast; omega) | (push_cast; rfl))) (.same rfl (.same rfl (.same rfl (.same rfl (.same rfl (.same rfl (.same rfl (.same rfl .nil)))))))))
    case hl_0 =>
      intro k hI
      refine Tr.seq ?_
      refine Tr.region ?_
      refine TrL.stepS 32 (.plain rfl (.lss rfl (.of rfl) (.of rfl))) rfl rfl ?_
      refine TrL.nil ?_
      refine Fin.next ?_
      refine Tr.seq ?_
      refine Tr.cond rfl (fun hb1 => ?_) (fun hb1 => ?_)
      · try simp only [decide_eq_true_eq, decide_eq_false_iff_not, beq_iff_eq, beq_eq_false_iff_ne, bne_iff_ne, bne_eq_false_iff_eq, Bool.and_eq_true, Bool.and_eq_false_iff, Bool.or_eq_true, Bool.or_eq_false_iff, Bool.not_eq_true', Bool.not_eq_false', gt_iff_lt, ge_iff_le, Int.not_lt, Int.not_le, ne_eq, Int.natCast_nonneg, true_and, and_true, Decidable.not_not, not_true_eq_false, not_false_eq_true] at hb1
        obtain ⟨x, hx⟩ := ex_get (xs := ls) (i := k) (by omega)
        refine Tr.skip ?_
        refine Fin.next ?_
        refine Tr.seq ?_
        refine Tr.block ?_
        refine Tr.seq ?_
        refine Tr.region ?_
        refine TrL.stepS 33 (.plain rfl (.indexE rfl (.of rfl) (.of rfl) Try.underlying47 T.sz49 (by omega) hx)) rfl rfl ?_
        refine TrL.stepS 34 (.plain rfl (.load4 rfl (.of rfl) T.ag49)) rfl rfl ?_
        refine TrL.allocS 20 (zs := [.string ⟨#[]⟩, .int .i8 0, .int .i8 0, .int .i64 0]) rfl rfl (by kernel_rfl) 14 rfl rfl rfl fun b20 => ?_
        refine TrL.storeW 20 (vs := [_, _, _, _]) rfl rfl rfl (.of rfl) (.of rfl) rfl rfl T.sz49 rfl rfl ?_
        refine TrL.nil ?_
        refine Fin.keepG (Γ' := [(0, _), (1, _), (2, _), (3, _), (4, _), (5, _), (14, _), (29, _), (30, _), (31, _)]) (.same rfl (.same rfl (.same rfl (.same rfl (.same rfl (.same rfl (.same rfl (.same rfl (.same rfl (.same rfl .nil)))))))))) ?_
        refine Fin.next ?_
        refine Tr.seq ?_
        refine Tr.region ?_
        refine TrL.stepS 35 (.plain rfl (.fieldP rfl (.of rfl) T.fl49_0)) rfl rfl ?_
        refine TrL.stepS 36 (.plain rfl (.loadB 20 rfl (.of rfl) rfl rfl rfl T.sc9)) rfl rfl ?_
        refine TrL.stepS 37 (.plain rfl (.lenStr rfl (.of rfl) Try.underlying9)) rfl rfl ?_
        refine TrL.stepS 38 (.plain rfl (.gtr rfl (.of rfl) (.of rfl))) rfl rfl ?_
        refine TrL.nil ?_
        refine Fin.keepG (Γ' := [(0, _), (1, _), (2, _), (3, _), (4, _), (5, _), (29, _), (30, _), (31, _), (38, _)]) (.same rfl (.same rfl (.same rfl (.same rfl (.same rfl (.same rfl (.same rfl (.same rfl (.same rfl (.same rfl .nil)))))))))) ?_
        refine Fin.next ?_
        refine Tr.cond rfl (fun hb2 => ?_) (fun hb2 => ?_)
        · try simp only [decide_eq_true_eq, decide_eq_false_iff_not, beq_iff_eq, beq_eq_false_iff_ne, bne_iff_ne, bne_eq_false_iff_eq, Bool.and_eq_true, Bool.and_eq_false_iff, Bool.or_eq_true, Bool.or_eq_false_iff, Bool.not_eq_true', Bool.not_eq_false', gt_iff_lt, ge_iff_le, Int.not_lt, Int.not_le, ne_eq, Int.natCast_nonneg, true_and, and_true, Decidable.not_not, not_true_eq_false, not_false_eq_true] at hb2
          refine Tr.seq ?_
          refine Tr.region ?_
          refine TrL.stepS 39 (.plain rfl (.call rfl F20 .nil)) rfl rfl ?_
          refine TrL.stepS 12 (.plain rfl (.assign rfl (.of rfl))) rfl rfl ?_
          refine TrL.nil ?_
          refine Fin.keepG (Γ' := [(12, _)]) (.same rfl .nil) ?_
          refine Fin.next ?_
          refine Tr.ret ?_
          refine Fin.blockRet ?_
          refine Fin.thenRet ?_
          refine Fin.thenRet ?_
          refine Fin.blockRet ?_
          refine Fin.thenRet ?_
          exact Fin.retI (rs := [_]) (Rs' := [is (.bool true)]) rfl (.cons (.tmp rfl) .nil) (.cons (L.iv rfl) .nil)
        · try simp only [decide_eq_true_eq, decide_eq_false_iff_not, beq_iff_eq, beq_eq_false_iff_ne, bne_iff_ne, bne_eq_false_iff_eq, Bool.and_eq_true, Bool.and_eq_false_iff, Bool.or_eq_true, Bool.or_eq_false_iff, Bool.not_eq_true', Bool.not_eq_false', gt_iff_lt, ge_iff_le, Int.not_lt, Int.not_le, ne_eq, Int.natCast_nonneg, true_and, and_true, Decidable.not_not, not_true_eq_false, not_false_eq_true] at hb2
          refine Tr.skip ?_
          refine Fin.blockNormal ?_
          refine Fin.next ?_
          refine Tr.region ?_
          first | refine TrL.stepS 40 (.plain rfl (.addI L.bd_i64 rfl (.of rfl) (.of rfl) (by omega) (by omega))) rfl rfl ?_ | refine TrL.stepS 40 (.plain rfl (.add rfl (.of rfl) (.of rfl))) rfl rfl ?_
          refine TrL.stepS 31 (.plain rfl (.move rfl (.of rfl))) rfl rfl ?_
          refine TrL.nil ?_
          refine Fin.keepG (Γ' := [(0, _), (1, _), (2, _), (3, _), (4, _), (5, _), (29, _), (30, _), (31, _)]) (.same rfl (.same rfl (.same rfl (.same rfl (.same rfl (.same rfl (.same rfl (.same rfl (.same rfl .nil))))))))) ?_
          exact Fin.again (k + 1) (by omega) (by omega) .nil (.eq rfl (by first | rfl | (congr 1; first | done | omega | (push_cast; omega) | (push_cast; rfl))) (.same rfl (.same rfl (.same rfl (.same rfl (.same rfl (.same rfl (.same rfl (.same rfl .nil)))))))))
      · try simp only [decide_eq_true_eq, decide_eq_false_iff_not, beq_iff_eq, beq_eq_false_iff_ne, bne_iff_ne, bne_eq_false_iff_eq, Bool.and_eq_true, Bool.and_eq_false_iff, Bool.or_eq_true, Bool.or_eq_false_iff, Bool.not_eq_true', Bool.not_eq_false', gt_iff_lt, ge_iff_le, Int.not_lt, Int.not_le, ne_eq, Int.natCast_nonneg, true_and, and_true, Decidable.not_not, not_true_eq_false, not_false_eq_true] at hb1
        refine Tr.exit ?_
        refine Fin.thenExit ?_
        refine Fin.thenExit ?_
        refine Fin.blockOut ?_
        refine Fin.next ?_
        refine Tr.seq ?_
        refine Tr.region ?_
        refine TrL.stepS 41 (.plain rfl (.move rfl (.of rfl))) rfl rfl ?_
        refine TrL.stepS 42 (.plain rfl (.move rfl (.of rfl))) rfl rfl ?_
        refine TrL.stepS 43 (.plain rfl (.move rfl (.of rfl))) rfl rfl ?_
        refine TrL.stepS 44 (.plain rfl (.move rfl (.of rfl))) rfl rfl ?_
        refine TrL.stepS 45 (.plain rfl (.call rfl (F21 a b d xs ha hb hd (by omega) hx0) (.cons (.of rfl) (.cons (.of rfl) (.cons (.of rfl) (.cons (.of rfl) .nil)))))) rfl rfl ?_
        refine TrL.stepS 46 (.plain rfl (.move rfl (.of rfl))) rfl rfl ?_
        refine TrL.stepS 47 (.guarded rfl rfl rfl fun hg => .move rfl (.of rfl)) rfl rfl ?_
        refine TrL.stepS 48 (.guarded rfl rfl rfl fun hg => .move rfl (.of rfl)) rfl rfl ?_
        refine TrL.stepS 49 (.guarded rfl rfl rfl fun hg => .call rfl (F22 xs ps (by omega) (by omega) hx0 hp0) (.cons (.cond rfl hg) (.cons (.cond rfl hg) .nil))) rfl rfl ?_
        refine TrL.stepS 50 (.plain rfl (.and rfl (.of rfl) (.cond rfl fun h => h))) rfl rfl ?_
        refine TrL.stepS 51 (.plain rfl (.move rfl (.of rfl))) rfl rfl ?_
        refine TrL.stepS 52 (.guarded rfl rfl rfl fun hg => .move rfl (.of rfl)) rfl rfl ?_
        refine TrL.stepS 53 (.guarded rfl rfl rfl fun hg => .call rfl (F23 ls (by omega)) (.cons (.cond rfl hg) .nil)) rfl rfl ?_
        refine TrL.stepS 54 (.plain rfl (.and rfl (.of rfl) (.cond rfl fun h => h))) rfl rfl ?_
        refine TrL.stepS 55 (.plain rfl (.move rfl (.of rfl))) rfl rfl ?_
        refine TrL.stepS 56 (.guarded rfl rfl rfl fun hg => .call rfl F20 .nil) rfl rfl ?_
        refine TrL.stepS 57 (.plain rfl (.and rfl (.of rfl) (.cond rfl fun h => h))) rfl rfl ?_
        refine TrL.stepS 12 (.plain rfl (.assign rfl (.of rfl))) rfl rfl ?_
        refine TrL.nil ?_
        refine Fin.keepG (Γ' := [(12, _)]) (.same rfl .nil) ?_
        refine Fin.next ?_
        refine Tr.ret ?_
        exact Fin.retI (rs := [_]) (Rs' := [is (.bool true)]) rfl (.cons (.tmp rfl) .nil) (.cons (L.iv rfl) .nil)

end Go.Proofs.Ytemkogoclljhpaa