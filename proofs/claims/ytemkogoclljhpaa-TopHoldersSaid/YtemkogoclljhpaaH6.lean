import Derived.Test.YtemkogoclljhpaaH5
namespace Go.Proofs.Ytemkogoclljhpaa
open Go Go.Proofs.Ytemkogoclljhpaa.L
set_option linter.unusedVariables false
set_option linter.unusedSimpArgs false

namespace T
theorem H6bd106_0_1_2_3_4_5 (c0 : Int) (c1 : Int) (c2 : Int) (c3 : Int) (c4 : Int) (c5 : Bool) : Try.prog.built 106 [(0, .int .u8 c0), (1, .int .u8 c1), (2, .int .u8 c2), (3, .int .u8 c3), (4, .int .u8 c4), (5, .bool c5)] = some #[.int .u8 c0, .int .u8 c1, .int .u8 c2, .int .u8 c3, .int .u8 c4, .bool c5] := by kernel_rfl
end T


abbrev m0 : Int := max 0 2
abbrev k1 : List Ls := grantR [] m0 (0 + 1, 1, 5, 9, false)
abbrev l1 : Int := if m0 ≤ ([] : List Ls).length then 0 else 0 + 1
abbrev k2 : List Ls := grantR k1 m0 (l1 + 1, 2, 3, 4, true)
abbrev l2 : Int := if m0 ≤ k1.length then l1 else l1 + 1
abbrev k3 : List Ls := grantR k2 m0 (l2 + 1, 1, 1, 1, false)
abbrev l3 : Int := if m0 ≤ k2.length then l2 else l2 + 1
abbrev k4 : List Ls := moveR (hasP 2 2 true) k3 7
abbrev k5 : List Ls := renewR (hasP 1 1 false) k4 8
abbrev k6 : List Ls := k5.filter fun x => !(fun x : Ls => decide (x.2.2.2.1 ≤ 4)) x
abbrev e1 : List Ls := k5.filter fun x => decide (x.2.2.2.1 ≤ 4)
abbrev e2 : List Ls := k6.filter fun x => decide (x.2.2.2.1 ≤ 9)
theorem he1 : e1[0]? = some (2, 2, 7, 4, true) := by decide +kernel
theorem he2 : e2[0]? = some (1, 1, 5, 9, false) := by decide +kernel
abbrev h34 : List Hd := [(0, 1, 0, 5, 9, false), (0, 2, 0, 3, 4, true), (0, 1, 0, 1, 1, false), (4, 2, 2, 7, 0, false), (4, 2, 2, 6, 0, false), (2, 1, 1, 0, 12, false), (3, 1, 1, 0, 0, true), (5, 0, 0, 4, 0, false), (6, 1, 0, 0, 0, false), (0, 3, 0, 2, 2, true)]
theorem ok34 : ∀ h ∈ h34, okH h := by unfold okH; decide +kernel
theorem run34 : ((runH 2 h34).2 == 3) = true := by decide +kernel

/- tidepool/tidepooltop.known34e -/
set_option maxRecDepth 100000 in
theorem F18  : FnP Try.prog 18 [] (is (.bool true)) := by
  refine FnP.mk' Try.func18 T.nm18 rfl (N := 164) rfl rfl fun B hB hκ => ?_
  refine Tr.seq ?_
  refine Tr.region ?_
  refine TrL.stepS 0 (.plain rfl (.assign rfl (.of rfl))) rfl rfl ?_
  refine TrL.nil ?_
  refine Fin.keepG (Γ' := []) .nil ?_
  refine Fin.next ?_
  refine Tr.seq ?_
  refine Tr.region ?_
  refine TrL.callG [] [] [20, 21] rfl rfl 22 rfl rfl (F54 ..) (.cons (.of rfl) .nil) .nil rfl rfl (fun _ => rfl) fun b => ?_
  refine TrL.stepS 1 (.plain rfl (.assign rfl (.of rfl))) rfl rfl ?_
  refine TrL.nil ?_
  refine Fin.keepG (Γ' := [(1, _)]) (.same rfl .nil) ?_
  refine Fin.next ?_
  refine Tr.seq ?_
  refine Tr.region ?_
  refine TrL.stepS 24 (.plain rfl (.move rfl (.of rfl))) rfl rfl ?_
  refine TrL.callG [] [20, 21] [20, 21] rfl rfl 25 rfl rfl (F55 b (.slice none 0 0) m0 0 [] (by decide +kernel) 1 5 9 false (by decide +kernel)) (.cons (.of rfl) (.cons (.of rfl) (.cons (.of rfl) (.cons (.of rfl) (.cons (.of rfl) .nil))))) (.same rfl (.same rfl .nil)) rfl rfl (fun _ => rfl) fun v1 => ?_
  refine TrL.stepS 23 (.plain rfl (.move rfl (.of rfl))) rfl rfl ?_
  refine TrL.stepS 26 (.plain rfl (.extract rfl (.of rfl) rfl)) rfl rfl ?_
  refine TrL.stepS 27 (.plain rfl (.extract rfl (.of rfl) rfl)) rfl rfl ?_
  refine TrL.allocS 40 (zs := [.int .u64 0, .int .i64 0, .int .u64 0, .int .u64 0, .bool false]) rfl rfl (by kernel_rfl) 2 rfl rfl rfl fun b40 => ?_
  refine TrL.storeW 40 (vs := [_, _, _, _, _]) rfl rfl rfl (.of rfl) (.of rfl) rfl rfl T.sz97 rfl rfl ?_
  refine TrL.stepS 3 (.plain rfl (.assign rfl (.of rfl))) rfl rfl ?_
  refine TrL.nil ?_
  refine Fin.keepG (Γ' := [(1, _), (2, _), (3, _)]) (.same rfl (.same rfl (.same rfl .nil))) ?_
  refine Fin.next ?_
  refine Tr.seq ?_
  refine Tr.region ?_
  refine TrL.stepS 29 (.plain rfl (.move rfl (.of rfl))) rfl rfl ?_
  refine TrL.callG [] [20, 21] [20, 21] rfl rfl 30 rfl rfl (F55 b v1 m0 l1 k1 (by decide +kernel) 2 3 4 true (by decide +kernel)) (.cons (.of rfl) (.cons (.of rfl) (.cons (.of rfl) (.cons (.of rfl) (.cons (.of rfl) .nil))))) (.same rfl (.same rfl .nil)) rfl rfl (fun _ => rfl) fun v2 => ?_
  refine TrL.stepS 28 (.plain rfl (.move rfl (.of rfl))) rfl rfl ?_
  refine TrL.stepS 31 (.plain rfl (.extract rfl (.of rfl) rfl)) rfl rfl ?_
  refine TrL.stepS 32 (.plain rfl (.extract rfl (.of rfl) rfl)) rfl rfl ?_
  refine TrL.allocS 41 (zs := [.int .u64 0, .int .i64 0, .int .u64 0, .int .u64 0, .bool false]) rfl rfl (by kernel_rfl) 4 rfl rfl rfl fun b41 => ?_
  refine TrL.storeW 41 (vs := [_, _, _, _, _]) rfl rfl rfl (.of rfl) (.of rfl) rfl rfl T.sz97 rfl rfl ?_
  refine TrL.stepS 5 (.plain rfl (.assign rfl (.of rfl))) rfl rfl ?_
  refine TrL.nil ?_
  refine Fin.keepG (Γ' := [(1, _), (2, _), (3, _), (4, _), (5, _)]) (.same rfl (.same rfl (.same rfl (.same rfl (.same rfl .nil))))) ?_
  refine Fin.next ?_
  refine Tr.seq ?_
  refine Tr.region ?_
  refine TrL.stepS 34 (.plain rfl (.move rfl (.of rfl))) rfl rfl ?_
  refine TrL.callG [] [20, 21] [20, 21] rfl rfl 35 rfl rfl (F55 b v2 m0 l2 k2 (by decide +kernel) 1 1 1 false (by decide +kernel)) (.cons (.of rfl) (.cons (.of rfl) (.cons (.of rfl) (.cons (.of rfl) (.cons (.of rfl) .nil))))) (.same rfl (.same rfl .nil)) rfl rfl (fun _ => rfl) fun v3 => ?_
  refine TrL.stepS 33 (.plain rfl (.move rfl (.of rfl))) rfl rfl ?_
  refine TrL.stepS 36 (.plain rfl (.extract rfl (.of rfl) rfl)) rfl rfl ?_
  refine TrL.stepS 37 (.plain rfl (.extract rfl (.of rfl) rfl)) rfl rfl ?_
  refine TrL.allocS 42 (zs := [.int .u64 0, .int .i64 0, .int .u64 0, .int .u64 0, .bool false]) rfl rfl (by kernel_rfl) 6 rfl rfl rfl fun b42 => ?_
  refine TrL.storeW 42 (vs := [_, _, _, _, _]) rfl rfl rfl (.of rfl) (.of rfl) rfl rfl T.sz97 rfl rfl ?_
  refine TrL.stepS 7 (.plain rfl (.assign rfl (.of rfl))) rfl rfl ?_
  refine TrL.nil ?_
  refine Fin.keepG (Γ' := [(1, _), (2, _), (3, _), (4, _), (5, _), (7, _)]) (.same rfl (.same rfl (.same rfl (.same rfl (.same rfl (.same rfl .nil)))))) ?_
  refine Fin.next ?_
  refine Tr.seq ?_
  refine Tr.region ?_
  refine TrL.stepS 39 (.plain rfl (.move rfl (.of rfl))) rfl rfl ?_
  refine TrL.stepS 40 (.plain rfl (.callR [20, 21] rfl (F56 b v3 m0 l3 k3 (by decide +kernel) ) (.cons (.of rfl) .nil) (.same rfl (.same rfl .nil)) rfl)) rfl rfl ?_
  refine TrL.stepS 38 (.plain rfl (.move rfl (.of rfl))) rfl rfl ?_
  refine TrL.stepS 41 (.plain rfl (.extract rfl (.of rfl) rfl)) rfl rfl ?_
  refine TrL.stepS 42 (.plain rfl (.extract rfl (.of rfl) rfl)) rfl rfl ?_
  refine TrL.stepS 8 (.plain rfl (.assign rfl (.of rfl))) rfl rfl ?_
  refine TrL.stepS 9 (.plain rfl (.assign rfl (.of rfl))) rfl rfl ?_
  refine TrL.nil ?_
  refine Fin.keepG (Γ' := [(1, _), (2, _), (3, _), (4, _), (5, _), (7, _), (8, _), (9, _)]) (.same rfl (.same rfl (.same rfl (.same rfl (.same rfl (.same rfl (.same rfl (.same rfl .nil)))))))) ?_
  refine Fin.next ?_
  refine Tr.seq ?_
  refine Tr.region ?_
  refine TrL.stepS 44 (.plain rfl (.move rfl (.of rfl))) rfl rfl ?_
  refine TrL.stepS 45 (.plain rfl (.callR [20, 21] rfl (F57 b v3 m0 l3 k3 (by decide +kernel) 1 2 true) (.cons (.of rfl) (.cons (.of rfl) (.cons (.of rfl) (.cons (.of rfl) .nil)))) (.same rfl (.same rfl .nil)) rfl)) rfl rfl ?_
  refine TrL.stepS 43 (.plain rfl (.move rfl (.of rfl))) rfl rfl ?_
  refine TrL.stepS 46 (.plain rfl (.extract rfl (.of rfl) rfl)) rfl rfl ?_
  refine TrL.stepS 47 (.plain rfl (.extract rfl (.of rfl) rfl)) rfl rfl ?_
  refine TrL.allocS 43 (zs := [.int .u64 0, .int .i64 0, .int .u64 0, .int .u64 0, .bool false]) rfl rfl (by kernel_rfl) 10 rfl rfl rfl fun b43 => ?_
  refine TrL.storeW 43 (vs := [_, _, _, _, _]) rfl rfl rfl (.of rfl) (.of rfl) rfl rfl T.sz97 rfl rfl ?_
  refine TrL.stepS 11 (.plain rfl (.assign rfl (.of rfl))) rfl rfl ?_
  refine TrL.nil ?_
  refine Fin.keepG (Γ' := [(1, _), (2, _), (3, _), (4, _), (5, _), (7, _), (8, _), (9, _), (11, _)]) (.same rfl (.same rfl (.same rfl (.same rfl (.same rfl (.same rfl (.same rfl (.same rfl (.same rfl .nil))))))))) ?_
  refine Fin.next ?_
  refine Tr.seq ?_
  refine Tr.region ?_
  refine TrL.stepS 49 (.plain rfl (.move rfl (.of rfl))) rfl rfl ?_
  refine TrL.callG [] [20, 21] [20, 21] rfl rfl 50 rfl rfl (F58 b v3 m0 l3 k3 (by decide +kernel) 2 2 7) (.cons (.of rfl) (.cons (.of rfl) (.cons (.of rfl) (.cons (.of rfl) .nil)))) (.same rfl (.same rfl .nil)) rfl rfl (fun _ => rfl) fun _ => ?_
  refine TrL.stepS 48 (.plain rfl (.move rfl (.of rfl))) rfl rfl ?_
  refine TrL.stepS 51 (.plain rfl (.extract rfl (.of rfl) rfl)) rfl rfl ?_
  refine TrL.stepS 52 (.plain rfl (.extract rfl (.of rfl) rfl)) rfl rfl ?_
  refine TrL.allocS 44 (zs := [.int .u64 0, .int .i64 0, .int .u64 0, .int .u64 0, .bool false]) rfl rfl (by kernel_rfl) 12 rfl rfl rfl fun b44 => ?_
  refine TrL.storeW 44 (vs := [_, _, _, _, _]) rfl rfl rfl (.of rfl) (.of rfl) rfl rfl T.sz97 rfl rfl ?_
  refine TrL.stepS 13 (.plain rfl (.assign rfl (.of rfl))) rfl rfl ?_
  refine TrL.nil ?_
  refine Fin.keepG (Γ' := [(1, _), (2, _), (3, _), (4, _), (5, _), (7, _), (8, _), (9, _), (11, _), (13, _)]) (.same rfl (.same rfl (.same rfl (.same rfl (.same rfl (.same rfl (.same rfl (.same rfl (.same rfl (.same rfl .nil)))))))))) ?_
  refine Fin.next ?_
  refine Tr.seq ?_
  refine Tr.region ?_
  refine TrL.stepS 54 (.plain rfl (.move rfl (.of rfl))) rfl rfl ?_
  refine TrL.stepS 55 (.plain rfl (.callR [20, 21] rfl (F56 b v3 m0 l3 k4 (by decide +kernel) ) (.cons (.of rfl) .nil) (.same rfl (.same rfl .nil)) rfl)) rfl rfl ?_
  refine TrL.stepS 53 (.plain rfl (.move rfl (.of rfl))) rfl rfl ?_
  refine TrL.stepS 56 (.plain rfl (.extract rfl (.of rfl) rfl)) rfl rfl ?_
  refine TrL.stepS 57 (.plain rfl (.extract rfl (.of rfl) rfl)) rfl rfl ?_
  refine TrL.stepS 14 (.plain rfl (.assign rfl (.of rfl))) rfl rfl ?_
  refine TrL.stepS 15 (.plain rfl (.assign rfl (.of rfl))) rfl rfl ?_
  refine TrL.nil ?_
  refine Fin.keepG (Γ' := [(1, _), (2, _), (3, _), (4, _), (5, _), (7, _), (8, _), (9, _), (11, _), (13, _), (14, _), (15, _)]) (.same rfl (.same rfl (.same rfl (.same rfl (.same rfl (.same rfl (.same rfl (.same rfl (.same rfl (.same rfl (.same rfl (.same rfl .nil)))))))))))) ?_
  refine Fin.next ?_
  refine Tr.seq ?_
  refine Tr.region ?_
  refine TrL.stepS 59 (.plain rfl (.move rfl (.of rfl))) rfl rfl ?_
  refine TrL.callG [] [20, 21] [20, 21] rfl rfl 60 rfl rfl (F59 b v3 m0 l3 k4 (by decide +kernel) 1 1 8 false) (.cons (.of rfl) (.cons (.of rfl) (.cons (.of rfl) (.cons (.of rfl) (.cons (.of rfl) .nil))))) (.same rfl (.same rfl .nil)) rfl rfl (fun _ => rfl) fun _ => ?_
  refine TrL.stepS 58 (.plain rfl (.move rfl (.of rfl))) rfl rfl ?_
  refine TrL.stepS 61 (.plain rfl (.extract rfl (.of rfl) rfl)) rfl rfl ?_
  refine TrL.stepS 62 (.plain rfl (.extract rfl (.of rfl) rfl)) rfl rfl ?_
  refine TrL.allocS 45 (zs := [.int .u64 0, .int .i64 0, .int .u64 0, .int .u64 0, .bool false]) rfl rfl (by kernel_rfl) 16 rfl rfl rfl fun b45 => ?_
  refine TrL.storeW 45 (vs := [_, _, _, _, _]) rfl rfl rfl (.of rfl) (.of rfl) rfl rfl T.sz97 rfl rfl ?_
  refine TrL.stepS 17 (.plain rfl (.assign rfl (.of rfl))) rfl rfl ?_
  refine TrL.nil ?_
  refine Fin.keepG (Γ' := [(1, _), (2, _), (3, _), (4, _), (5, _), (7, _), (8, _), (9, _), (11, _), (13, _), (14, _), (15, _), (16, _), (17, _)]) (.same rfl (.same rfl (.same rfl (.same rfl (.same rfl (.same rfl (.same rfl (.same rfl (.same rfl (.same rfl (.same rfl (.same rfl (.same rfl (.same rfl .nil)))))))))))))) ?_
  refine Fin.next ?_
  refine Tr.seq ?_
  refine Tr.region ?_
  refine TrL.stepS 63 (.plain rfl (.move rfl (.of rfl))) rfl rfl ?_
  refine TrL.callG [] [20, 21] [20, 21] rfl rfl 64 rfl rfl (F60 b v3 m0 l3 k5 (by decide +kernel) 4) (.cons (.of rfl) (.cons (.of rfl) .nil)) (.same rfl (.same rfl .nil)) rfl rfl (fun _ => rfl) fun v4 => ?_
  refine TrL.stepS 65 (.plain rfl (.move rfl (.of rfl))) rfl rfl ?_
  refine TrL.callG [] [20, 21] [20, 21] rfl rfl 66 rfl rfl (F60 b v4 m0 l3 k6 (by decide +kernel) 9) (.cons (.of rfl) (.cons (.of rfl) .nil)) (.same rfl (.same rfl .nil)) rfl rfl (fun _ => rfl) fun v5 => ?_
  refine TrL.stepS 18 (.plain rfl (.assign rfl (.of rfl))) rfl rfl ?_
  refine TrL.stepS 19 (.plain rfl (.assign rfl (.of rfl))) rfl rfl ?_
  refine TrL.nil ?_
  refine Fin.keepG (Γ' := [(2, _), (3, _), (4, _), (5, _), (7, _), (8, _), (9, _), (11, _), (13, _), (14, _), (15, _), (16, _), (17, _), (18, _), (19, _)]) (.same rfl (.same rfl (.same rfl (.same rfl (.same rfl (.same rfl (.same rfl (.same rfl (.same rfl (.same rfl (.same rfl (.same rfl (.same rfl (.same rfl (.same rfl .nil))))))))))))))) ?_
  refine Fin.next ?_
  refine Tr.seq ?_
  refine Tr.seq ?_
  refine Tr.region ?_
  refine TrL.stepS 67 (.plain rfl (.move rfl (.of rfl))) rfl rfl ?_
  refine TrL.stepS 68 (.plain rfl (.neq rfl (.of rfl) (.of rfl))) rfl rfl ?_
  refine TrL.stepS 69 (.plain rfl (.move rfl (.of rfl))) rfl rfl ?_
  refine TrL.stepS 70 (.guarded rfl rfl rfl fun hg => .move rfl (.of rfl)) rfl rfl ?_
  refine TrL.stepS 71 (.guarded rfl rfl rfl fun hg => .neq rfl (.cond rfl hg) (.of rfl)) rfl rfl ?_
  refine TrL.stepS 72 (.plain rfl (.or rfl (.of rfl) (.cond rfl fun h => h))) rfl rfl ?_
  refine TrL.stepS 73 (.plain rfl (.move rfl (.of rfl))) rfl rfl ?_
  refine TrL.stepS 74 (.guarded rfl rfl rfl fun hg => .move rfl (.of rfl)) rfl rfl ?_
  refine TrL.stepS 75 (.guarded rfl rfl rfl fun hg => .neq rfl (.cond rfl hg) (.of rfl)) rfl rfl ?_
  refine TrL.stepS 76 (.plain rfl (.or rfl (.of rfl) (.cond rfl fun h => h))) rfl rfl ?_
  refine TrL.stepS 77 (.plain rfl (.move rfl (.of rfl))) rfl rfl ?_
  refine TrL.stepS 78 (.guarded rfl rfl rfl fun hg => .fieldP rfl (.of rfl) T.fl97_0) rfl rfl ?_
  refine TrL.stepS 79 (.guarded rfl rfl rfl fun hg => .loadB 40 rfl (.cond rfl hg) rfl rfl rfl T.sc55) rfl rfl ?_
  refine TrL.stepS 80 (.guarded rfl rfl rfl fun hg => .neq rfl (.cond rfl hg) (.of rfl)) rfl rfl ?_
  refine TrL.stepS 81 (.plain rfl (.or rfl (.of rfl) (.cond rfl fun h => h))) rfl rfl ?_
  refine TrL.stepS 82 (.plain rfl (.move rfl (.of rfl))) rfl rfl ?_
  refine TrL.stepS 83 (.guarded rfl rfl rfl fun hg => .fieldP rfl (.of rfl) T.fl97_0) rfl rfl ?_
  refine TrL.stepS 84 (.guarded rfl rfl rfl fun hg => .loadB 41 rfl (.cond rfl hg) rfl rfl rfl T.sc55) rfl rfl ?_
  refine TrL.stepS 85 (.guarded rfl rfl rfl fun hg => .neq rfl (.cond rfl hg) (.of rfl)) rfl rfl ?_
  refine TrL.stepS 86 (.plain rfl (.or rfl (.of rfl) (.cond rfl fun h => h))) rfl rfl ?_
  refine TrL.stepS 87 (.plain rfl (.move rfl (.of rfl))) rfl rfl ?_
  refine TrL.stepS 88 (.guarded rfl rfl rfl fun hg => .move rfl (.of rfl)) rfl rfl ?_
  refine TrL.stepS 89 (.guarded rfl rfl rfl fun hg => .neq rfl (.cond rfl hg) (.of rfl)) rfl rfl ?_
  refine TrL.stepS 90 (.plain rfl (.or rfl (.of rfl) (.cond rfl fun h => h))) rfl rfl ?_
  refine TrL.stepS 91 (.plain rfl (.move rfl (.of rfl))) rfl rfl ?_
  refine TrL.stepS 92 (.guarded rfl rfl rfl fun hg => .move rfl (.of rfl)) rfl rfl ?_
  refine TrL.stepS 93 (.guarded rfl rfl rfl fun hg => .not rfl (.cond rfl hg)) rfl rfl ?_
  refine TrL.stepS 94 (.plain rfl (.or rfl (.of rfl) (.cond rfl fun h => h))) rfl rfl ?_
  refine TrL.stepS 95 (.plain rfl (.move rfl (.of rfl))) rfl rfl ?_
  refine TrL.stepS 96 (.guarded rfl rfl rfl fun hg => .move rfl (.of rfl)) rfl rfl ?_
  refine TrL.stepS 97 (.guarded rfl rfl rfl fun hg => .neq rfl (.cond rfl hg) (.of rfl)) rfl rfl ?_
  refine TrL.stepS 98 (.plain rfl (.or rfl (.of rfl) (.cond rfl fun h => h))) rfl rfl ?_
  refine TrL.stepS 99 (.plain rfl (.move rfl (.of rfl))) rfl rfl ?_
  refine TrL.stepS 100 (.guarded rfl rfl rfl fun hg => .move rfl (.of rfl)) rfl rfl ?_
  refine TrL.stepS 101 (.guarded rfl rfl rfl fun hg => .neq rfl (.cond rfl hg) (.of rfl)) rfl rfl ?_
  refine TrL.stepS 102 (.plain rfl (.or rfl (.of rfl) (.cond rfl fun h => h))) rfl rfl ?_
  refine TrL.stepS 103 (.plain rfl (.move rfl (.of rfl))) rfl rfl ?_
  refine TrL.stepS 104 (.guarded rfl rfl rfl fun hg => .move rfl (.of rfl)) rfl rfl ?_
  refine TrL.stepS 105 (.guarded rfl rfl rfl fun hg => .neq rfl (.cond rfl hg) (.of rfl)) rfl rfl ?_
  refine TrL.stepS 106 (.plain rfl (.or rfl (.of rfl) (.cond rfl fun h => h))) rfl rfl ?_
  refine TrL.stepS 107 (.plain rfl (.move rfl (.of rfl))) rfl rfl ?_
  refine TrL.stepS 108 (.guarded rfl rfl rfl fun hg => .move rfl (.of rfl)) rfl rfl ?_
  refine TrL.stepS 109 (.guarded rfl rfl rfl fun hg => .not rfl (.cond rfl hg)) rfl rfl ?_
  refine TrL.stepS 110 (.plain rfl (.or rfl (.of rfl) (.cond rfl fun h => h))) rfl rfl ?_
  refine TrL.stepS 111 (.plain rfl (.move rfl (.of rfl))) rfl rfl ?_
  refine TrL.stepS 112 (.guarded rfl rfl rfl fun hg => .move rfl (.of rfl)) rfl rfl ?_
  refine TrL.stepS 113 (.guarded rfl rfl rfl fun hg => .neq rfl (.cond rfl hg) (.of rfl)) rfl rfl ?_
  refine TrL.stepS 114 (.plain rfl (.or rfl (.of rfl) (.cond rfl fun h => h))) rfl rfl ?_
  refine TrL.stepS 115 (.plain rfl (.move rfl (.of rfl))) rfl rfl ?_
  refine TrL.stepS 116 (.guarded rfl rfl rfl fun hg => .fieldP rfl (.of rfl) T.fl97_3) rfl rfl ?_
  refine TrL.stepS 117 (.guarded rfl rfl rfl fun hg => .loadB 45 rfl (.cond rfl hg) rfl rfl rfl T.sc55) rfl rfl ?_
  refine TrL.stepS 118 (.guarded rfl rfl rfl fun hg => .neq rfl (.cond rfl hg) (.of rfl)) rfl rfl ?_
  refine TrL.stepS 119 (.plain rfl (.or rfl (.of rfl) (.cond rfl fun h => h))) rfl rfl ?_
  refine TrL.stepS 120 (.plain rfl (.move rfl (.of rfl))) rfl rfl ?_
  refine TrL.stepS 121 (.guarded rfl rfl rfl fun hg => .move rfl (.of rfl)) rfl rfl ?_
  refine TrL.stepS 122 (.guarded rfl rfl rfl fun hg => .len rfl (.cond rfl hg) Try.underlying103) rfl rfl ?_
  refine TrL.stepS 123 (.guarded rfl rfl rfl fun hg => .neq rfl (.cond rfl hg) (.of rfl)) rfl rfl ?_
  refine TrL.stepS 124 (.plain rfl (.or rfl (.of rfl) (.cond rfl fun h => h))) rfl rfl ?_
  refine TrL.stepS 125 (.plain rfl (.move rfl (.of rfl))) rfl rfl ?_
  refine TrL.stepS 126 (.guarded rfl rfl rfl fun hg => .move rfl (.of rfl)) rfl rfl ?_
  refine TrL.stepS 127 (.guarded rfl rfl rfl fun hg => .indexE rfl (.cond rfl hg) (.of rfl) Try.underlying103 T.sz97 (by first | omega | (simp at hg; omega) | (simp at hg hp; omega)) he1) rfl rfl ?_
  refine TrL.stepS 128 (.guarded rfl rfl rfl fun hg => .fieldC rfl (.cond rfl hg) T.fl97_0) rfl rfl ?_
  refine TrL.stepS 129 (.guarded rfl rfl rfl fun hg => .load1 rfl (.cond rfl hg) T.sc55) rfl rfl ?_
  refine TrL.stepS 130 (.guarded rfl rfl rfl fun hg => .neq rfl (.cond rfl hg) (.of rfl)) rfl rfl ?_
  refine TrL.stepS 131 (.plain rfl (.or rfl (.of rfl) (.cond rfl fun h => h))) rfl rfl ?_
  refine TrL.stepS 132 (.plain rfl (.move rfl (.of rfl))) rfl rfl ?_
  refine TrL.stepS 133 (.guarded rfl rfl rfl fun hg => .move rfl (.of rfl)) rfl rfl ?_
  refine TrL.stepS 134 (.guarded rfl rfl rfl fun hg => .len rfl (.cond rfl hg) Try.underlying103) rfl rfl ?_
  refine TrL.stepS 135 (.guarded rfl rfl rfl fun hg => .neq rfl (.cond rfl hg) (.of rfl)) rfl rfl ?_
  refine TrL.stepS 136 (.plain rfl (.or rfl (.of rfl) (.cond rfl fun h => h))) rfl rfl ?_
  refine TrL.stepS 137 (.plain rfl (.move rfl (.of rfl))) rfl rfl ?_
  refine TrL.stepS 138 (.guarded rfl rfl rfl fun hg => .move rfl (.of rfl)) rfl rfl ?_
  refine TrL.stepS 139 (.guarded rfl rfl rfl fun hg => .indexE rfl (.cond rfl hg) (.of rfl) Try.underlying103 T.sz97 (by first | omega | (simp at hg; omega) | (simp at hg hp; omega)) he2) rfl rfl ?_
  refine TrL.stepS 140 (.guarded rfl rfl rfl fun hg => .fieldC rfl (.cond rfl hg) T.fl97_0) rfl rfl ?_
  refine TrL.stepS 141 (.guarded rfl rfl rfl fun hg => .load1 rfl (.cond rfl hg) T.sc55) rfl rfl ?_
  refine TrL.stepS 142 (.guarded rfl rfl rfl fun hg => .neq rfl (.cond rfl hg) (.of rfl)) rfl rfl ?_
  refine TrL.stepS 143 (.plain rfl (.or rfl (.of rfl) (.cond rfl fun h => h))) rfl rfl ?_
  refine TrL.nil ?_
  refine Fin.keepG (Γ' := [(143, _)]) (.same rfl .nil) ?_
  refine Fin.next ?_
  refine Tr.cond rfl (fun hb0 => ?_) (fun hb0 => ?_)
  · try simp only [true_and] at hb0
    exfalso; revert hb0; decide +kernel
  · try simp only [true_and] at hb0
    refine Tr.skip ?_
    refine Fin.next ?_
    refine Tr.seq ?_
    refine Tr.region ?_
    refine TrL.stepS 145 (.plain rfl (.build rfl (.cons (.of rfl) (.cons (.of rfl) (.cons (.of rfl) (.cons (.of rfl) (.cons (.of rfl) (.cons (.of rfl) .nil)))))) (T.H6bd106_0_1_2_3_4_5 _ _ _ _ _ _))) rfl rfl ?_
    refine TrL.stepS 146 (.plain rfl (.build rfl (.cons (.of rfl) (.cons (.of rfl) (.cons (.of rfl) (.cons (.of rfl) (.cons (.of rfl) (.cons (.of rfl) .nil)))))) (T.H6bd106_0_1_2_3_4_5 _ _ _ _ _ _))) rfl rfl ?_
    refine TrL.stepS 147 (.plain rfl (.build rfl (.cons (.of rfl) (.cons (.of rfl) (.cons (.of rfl) (.cons (.of rfl) (.cons (.of rfl) (.cons (.of rfl) .nil)))))) (T.H6bd106_0_1_2_3_4_5 _ _ _ _ _ _))) rfl rfl ?_
    refine TrL.stepS 148 (.plain rfl (.build rfl (.cons (.of rfl) (.cons (.of rfl) (.cons (.of rfl) (.cons (.of rfl) (.cons (.of rfl) (.cons (.of rfl) .nil)))))) (T.H6bd106_0_1_2_3_4_5 _ _ _ _ _ _))) rfl rfl ?_
    refine TrL.stepS 149 (.plain rfl (.build rfl (.cons (.of rfl) (.cons (.of rfl) (.cons (.of rfl) (.cons (.of rfl) (.cons (.of rfl) (.cons (.of rfl) .nil)))))) (T.H6bd106_0_1_2_3_4_5 _ _ _ _ _ _))) rfl rfl ?_
    refine TrL.stepS 150 (.plain rfl (.build rfl (.cons (.of rfl) (.cons (.of rfl) (.cons (.of rfl) (.cons (.of rfl) (.cons (.of rfl) (.cons (.of rfl) .nil)))))) (T.H6bd106_0_1_2_3_4_5 _ _ _ _ _ _))) rfl rfl ?_
    refine TrL.stepS 151 (.plain rfl (.build rfl (.cons (.of rfl) (.cons (.of rfl) (.cons (.of rfl) (.cons (.of rfl) (.cons (.of rfl) (.cons (.of rfl) .nil)))))) (T.H6bd106_0_1_2_3_4_5 _ _ _ _ _ _))) rfl rfl ?_
    refine TrL.stepS 152 (.plain rfl (.build rfl (.cons (.of rfl) (.cons (.of rfl) (.cons (.of rfl) (.cons (.of rfl) (.cons (.of rfl) (.cons (.of rfl) .nil)))))) (T.H6bd106_0_1_2_3_4_5 _ _ _ _ _ _))) rfl rfl ?_
    refine TrL.stepS 153 (.plain rfl (.build rfl (.cons (.of rfl) (.cons (.of rfl) (.cons (.of rfl) (.cons (.of rfl) (.cons (.of rfl) (.cons (.of rfl) .nil)))))) (T.H6bd106_0_1_2_3_4_5 _ _ _ _ _ _))) rfl rfl ?_
    refine TrL.stepS 154 (.plain rfl (.build rfl (.cons (.of rfl) (.cons (.of rfl) (.cons (.of rfl) (.cons (.of rfl) (.cons (.of rfl) (.cons (.of rfl) .nil)))))) (T.H6bd106_0_1_2_3_4_5 _ _ _ _ _ _))) rfl rfl ?_
    refine TrL.stepS 155 (.plain rfl (.slice (K := holdR) (xs := [_, _, _, _, _, _, _, _, _, _]) rfl (.cons (.map (.of rfl) (holdR_elem _ _ _ _ _ _)) (.cons (.map (.of rfl) (holdR_elem _ _ _ _ _ _)) (.cons (.map (.of rfl) (holdR_elem _ _ _ _ _ _)) (.cons (.map (.of rfl) (holdR_elem _ _ _ _ _ _)) (.cons (.map (.of rfl) (holdR_elem _ _ _ _ _ _)) (.cons (.map (.of rfl) (holdR_elem _ _ _ _ _ _)) (.cons (.map (.of rfl) (holdR_elem _ _ _ _ _ _)) (.cons (.map (.of rfl) (holdR_elem _ _ _ _ _ _)) (.cons (.map (.of rfl) (holdR_elem _ _ _ _ _ _)) (.cons (.map (.of rfl) (holdR_elem _ _ _ _ _ _)) .nil)))))))))) Try.underlying43 T.sz106 T.zb106 rfl (by decide))) rfl rfl ?_
    refine TrL.stepS 156 (.plain rfl (.call rfl (F19 2 h34 (by decide +kernel) ok34 (by decide +kernel)) (.cons (.of rfl) (.cons (.of rfl) .nil)))) rfl rfl ?_
    refine TrL.stepS 144 (.plain rfl (.move rfl (.of rfl))) rfl rfl ?_
    refine TrL.stepS 157 (.plain rfl (.extract rfl (.of rfl) rfl)) rfl rfl ?_
    refine TrL.stepS 158 (.plain rfl (.extract rfl (.of rfl) rfl)) rfl rfl ?_
    refine TrL.stepS 20 (.plain rfl (.assign rfl (.of rfl))) rfl rfl ?_
    refine TrL.stepS 21 (.plain rfl (.assign rfl (.of rfl))) rfl rfl ?_
    refine TrL.nil ?_
    refine Fin.keepG (Γ' := [(20, _), (21, _)]) (.same rfl (.same rfl .nil)) ?_
    refine Fin.next ?_
    refine Tr.seq ?_
    refine Tr.region ?_
    refine TrL.stepS 159 (.plain rfl (.move rfl (.of rfl))) rfl rfl ?_
    refine TrL.stepS 160 (.plain rfl (.move rfl (.of rfl))) rfl rfl ?_
    refine TrL.stepS 161 (.guarded rfl rfl rfl fun hg => .move rfl (.of rfl)) rfl rfl ?_
    refine TrL.stepS 162 (.guarded rfl rfl rfl fun hg => .eql rfl (.cond rfl hg) (.of rfl)) rfl rfl ?_
    refine TrL.stepS 163 (.plain rfl (.and rfl (.of rfl) (.cond rfl fun h => h))) rfl rfl ?_
    refine TrL.stepS 0 (.plain rfl (.assign rfl (.of rfl))) rfl rfl ?_
    refine TrL.nil ?_
    refine Fin.keepG (Γ' := [(0, _)]) (.same rfl .nil) ?_
    refine Fin.next ?_
    refine Tr.ret ?_
    refine Fin.retI (rs := [_]) (Rs' := [is (.bool true)]) rfl (.cons (.tmp rfl) .nil) (.cons (L.iv ?_) .nil)
    · exact congrArg Value.bool run34

/- tidepool/tidepooltop.TopHolders -/
set_option maxRecDepth 100000 in
theorem F5 (most : Int) (hz : List Hd) (hm : -128 ≤ most ∧ most ≤ 127) (hl0 : hz.length ≤ maxLen) (hh0 : ∀ h ∈ hz, okH h) : FnP Try.prog 5 [is (.int .i8 most), Lst holdR hz] (is (.bool true)) := by
  have hm7 : -7 < most.tmod 7 ∧ most.tmod 7 < 7 := by have h1 := Int.natAbs_tmod most 7; have h2 := Nat.mod_lt most.natAbs (show (7 : Int).natAbs > 0 by decide); rw [← h1, show (7 : Int).natAbs = 7 by decide] at h2; omega
  refine FnP.mk' Try.func5 T.nm5 rfl (N := 23) rfl rfl fun B hB hκ => ?_
  refine Tr.seq ?_
  refine Tr.region ?_
  refine TrL.stepS 4 (.plain rfl (.assign rfl (.of rfl))) rfl rfl ?_
  refine TrL.nil ?_
  refine Fin.keepG (Γ' := [(0, _), (1, _)]) (.same rfl (.same rfl .nil)) ?_
  refine Fin.next ?_
  refine Tr.seq ?_
  refine Tr.seq ?_
  refine Tr.region ?_
  refine TrL.stepS 7 (.plain rfl (.move rfl (.of rfl))) rfl rfl ?_
  refine TrL.stepS 8 (.plain rfl (.len rfl (.of rfl) Try.underlying43)) rfl rfl ?_
  refine TrL.stepS 9 (.plain rfl (.gtr rfl (.of rfl) (.of rfl))) rfl rfl ?_
  refine TrL.nil ?_
  refine Fin.keepG (Γ' := [(0, _), (1, _), (9, _)]) (.same rfl (.same rfl (.same rfl .nil))) ?_
  refine Fin.next ?_
  refine Tr.cond rfl (fun hb0 => ?_) (fun hb0 => ?_)
  · try simp only [decide_eq_true_eq, decide_eq_false_iff_not, beq_iff_eq, beq_eq_false_iff_ne, bne_iff_ne, bne_eq_false_iff_eq, Bool.and_eq_true, Bool.and_eq_false_iff, Bool.or_eq_true, Bool.or_eq_false_iff, Bool.not_eq_true', Bool.not_eq_false', gt_iff_lt, ge_iff_le, Int.not_lt, Int.not_le, ne_eq, Int.natCast_nonneg, true_and, and_true, Decidable.not_not, not_true_eq_false, not_false_eq_true] at hb0
    refine Tr.seq ?_
    refine Tr.region ?_
    refine TrL.stepS 10 (.plain rfl (.call rfl F18 .nil)) rfl rfl ?_
    refine TrL.stepS 4 (.plain rfl (.assign rfl (.of rfl))) rfl rfl ?_
    refine TrL.nil ?_
    refine Fin.keepG (Γ' := [(4, _)]) (.same rfl .nil) ?_
    refine Fin.next ?_
    refine Tr.ret ?_
    refine Fin.thenRet ?_
    exact Fin.retI (rs := [_]) (Rs' := [is (.bool true)]) rfl (.cons (.tmp rfl) .nil) (.cons (L.iv rfl) .nil)
  · try simp only [decide_eq_true_eq, decide_eq_false_iff_not, beq_iff_eq, beq_eq_false_iff_ne, bne_iff_ne, bne_eq_false_iff_eq, Bool.and_eq_true, Bool.and_eq_false_iff, Bool.or_eq_true, Bool.or_eq_false_iff, Bool.not_eq_true', Bool.not_eq_false', gt_iff_lt, ge_iff_le, Int.not_lt, Int.not_le, ne_eq, Int.natCast_nonneg, true_and, and_true, Decidable.not_not, not_true_eq_false, not_false_eq_true] at hb0
    refine Tr.skip ?_
    refine Fin.next ?_
    refine Tr.seq ?_
    refine Tr.region ?_
    refine TrL.stepS 12 (.plain rfl (.move rfl (.of rfl))) rfl rfl ?_
    refine TrL.stepS 13 (.plain rfl (OpM.rem rfl (.of rfl) (.of rfl) (by decide))) rfl rfl ?_
    refine TrL.stepS 14 (.plain rfl (OpM.eqI (n := most.tmod 7) (.conv rfl (.of rfl) T.us42 Try.underlying3) (wrap_in (k := .i64) (Int.le_trans (show IntKind.i64.min ≤ -7 by decide) (by omega)) (Int.le_trans (show most.tmod 7 ≤ 7 by omega) (by decide))))) rfl rfl ?_
    refine TrL.stepS 15 (.plain rfl (.move rfl (.of rfl))) rfl rfl ?_
    refine TrL.stepS 16 (.plain rfl (.call rfl (F19 (most.tmod 7) hz (by omega) hh0 (by omega)) (.cons (.of rfl) (.cons (.of rfl) .nil)))) rfl rfl ?_
    refine TrL.stepS 11 (.plain rfl (.move rfl (.of rfl))) rfl rfl ?_
    refine TrL.stepS 17 (.plain rfl (.extract rfl (.of rfl) rfl)) rfl rfl ?_
    refine TrL.stepS 18 (.plain rfl (.extract rfl (.of rfl) rfl)) rfl rfl ?_
    refine TrL.stepS 5 (.plain rfl (.assign rfl (.of rfl))) rfl rfl ?_
    refine TrL.stepS 6 (.plain rfl (.assign rfl (.of rfl))) rfl rfl ?_
    refine TrL.nil ?_
    refine Fin.keepG (Γ' := [(6, _)]) (.same rfl .nil) ?_
    refine Fin.next ?_
    refine Tr.seq ?_
    refine Tr.region ?_
    refine TrL.stepS 19 (.plain rfl (.move rfl (.of rfl))) rfl rfl ?_
    refine TrL.stepS 20 (.plain rfl (.move rfl (.of rfl))) rfl rfl ?_
    refine TrL.stepS 21 (.guarded rfl rfl rfl fun hg => .call rfl F18 .nil) rfl rfl ?_
    refine TrL.stepS 22 (.plain rfl (.and rfl (.of rfl) (.cond rfl fun h => h))) rfl rfl ?_
    refine TrL.stepS 4 (.plain rfl (.assign rfl (.of rfl))) rfl rfl ?_
    refine TrL.nil ?_
    refine Fin.keepG (Γ' := [(4, _)]) (.same rfl .nil) ?_
    refine Fin.next ?_
    refine Tr.ret ?_
    exact Fin.retI (rs := [_]) (Rs' := [is (.bool true)]) rfl (.cons (.tmp rfl) .nil) (.cons (L.iv rfl) .nil)

end Go.Proofs.Ytemkogoclljhpaa