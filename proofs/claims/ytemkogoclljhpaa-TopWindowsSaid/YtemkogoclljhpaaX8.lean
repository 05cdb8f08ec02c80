/- The given statement on TopWindows, for every input: the call returns true and the arguments read as they read before. No condition. -/
import Derived.Test.YtemkogoclljhpaaX7
import Derived.Test.YtemkogoclljhpaaLH
import Derived.Test.YtemkogoclljhpaaRows
namespace Go.Proofs.Ytemkogoclljhpaa
open Go Go.ChangeShapes Go.WideShapes Go.ChangeAt Go.RowKit Go.Proofs.Ytemkogoclljhpaa.L
set_option linter.unusedVariables false
set_option linter.unusedSimpArgs false
theorem TopWindows.ownT : ownKnob Try.prog.godebug = none := by kernel_rfl
theorem TopWindows.laidT : laidOutB Try.prog = true := by kernel_rfl

theorem six {cs : Array Value} (h : FitsL [.num .i32, .num .i32, .num .i32, .num .i32, .num .i32, .num .i32] cs.toList) : ∃ c0 c1 c2 c3 c4 c5 : Int, cs = #[.int .i32 c0, .int .i32 c1, .int .i32 c2, .int .i32 c3, .int .i32 c4, .int .i32 c5] ∧
    (-2147483648 ≤ c0 ∧ c0 ≤ 2147483647) ∧ (-2147483648 ≤ c1 ∧ c1 ≤ 2147483647) ∧ (-2147483648 ≤ c2 ∧ c2 ≤ 2147483647) ∧ (-2147483648 ≤ c3 ∧ c3 ≤ 2147483647) ∧ (-2147483648 ≤ c4 ∧ c4 ≤ 2147483647) ∧ (-2147483648 ≤ c5 ∧ c5 ≤ 2147483647) := by
  obtain ⟨l⟩ := cs
  rcases h with _ | ⟨⟨c0, rfl, w0⟩, _ | ⟨⟨c1, rfl, w1⟩, _ | ⟨⟨c2, rfl, w2⟩, _ | ⟨⟨c3, rfl, w3⟩, _ | ⟨⟨c4, rfl, w4⟩, _ | ⟨⟨c5, rfl, w5⟩, _ | _⟩⟩⟩⟩⟩⟩
  exact ⟨c0, c1, c2, c3, c4, c5, rfl, bounds_i32 w0, bounds_i32 w1, bounds_i32 w2, bounds_i32 w3, bounds_i32 w4, bounds_i32 w5⟩

set_option maxRecDepth 100000 in
theorem TopWindows_lifted (os : Os) (started : os.Started) (H : Type) (enc : TypeId × Value → H) :
    ReturnsInHanded {} Try.checked os 3 .any (Rows.topWindowsSpec.pre6 enc Try.prog Try.f3 Rows.topWindowsRow.domain false) (Rows.topWindowsSpec.post enc Try.prog Try.f3 false true false false) := by
  refine returnsInHanded_of_change (C := Try.checked) TopWindows.ownT started (by kernel_rfl) Try.func3
    (ChangeSpec.witness6 (enc := enc) (C := Try.checked) false ⟨#[], #[.int .u8 0, .int .i64 0, .int .i64 0, .int .i64 0, .int .i64 0, .agg #[.int .i32 0, .int .i32 0, .int .i32 0, .int .i32 0, .int .i32 0, .int .i32 0], .int .i64 0, .slice none 0 0], []⟩ 8 (by kernel_rfl) (by kernel_rfl) (by kernel_rfl) (by kernel_rfl)) ?_
  intro W base args ds gs before hval0 hW hcnd _
  have hval : ∀ (j : Nat) t v, Try.f3.params[j]? = some t → args[j]? = some v → Value.okWide Try.prog W .any base t v := hval0
  have hW' := hW
  obtain ⟨p, q, hA0, hV, rfl, hfz, hnd⟩ := hW
  have hA : DataW.TrodAll enc Try.prog W 0 (fun _ => true) true Try.f3.params.toList args.toList ds p := hA0
  have hAk := hA
  rw [Try.params3] at hA hval
  obtain ⟨v0, vs0, d0, ds0, p0, q0, hargs, rfl, rfl, h0, r0⟩ := trodAll_cons hA
  obtain ⟨v1, vs1, d1, ds1, p1, q1, rfl, rfl, rfl, h1, r1⟩ := trodAll_cons r0
  obtain ⟨v2, vs2, d2, ds2, p2, q2, rfl, rfl, rfl, h2, r2⟩ := trodAll_cons r1
  obtain ⟨v3, vs3, d3, ds3, p3, q3, rfl, rfl, rfl, h3, r3⟩ := trodAll_cons r2
  obtain ⟨v4, vs4, d4, ds4, p4, q4, rfl, rfl, rfl, h4, r4⟩ := trodAll_cons r3
  obtain ⟨v5, vs5, d5, ds5, p5, q5, rfl, rfl, rfl, h5, r5⟩ := trodAll_cons r4
  obtain ⟨v6, vs6, d6, ds6, p6, q6, rfl, rfl, rfl, h6, r6⟩ := trodAll_cons r5
  obtain ⟨v7, vs7, d7, ds7, p7, q7, rfl, rfl, rfl, h7, r7⟩ := trodAll_cons r6
  obtain ⟨rfl, rfl, rfl⟩ := trodAll_nil r7
  obtain rfl : args = #[v0, v1, v2, v3, v4, v5, v6, v7] := by cases args; simp_all
  obtain ⟨rfl, rfl⟩ := trodVars_none hV
  obtain ⟨kd, rfl, rfl, rfl, wkd⟩ := open_int Try.underlying5 (hval 0 5 v0 rfl rfl) h0
  obtain ⟨s, rfl, rfl, rfl, ws⟩ := open_int Try.underlying2 (hval 1 2 v1 rfl rfl) h1
  obtain ⟨l, rfl, rfl, rfl, wl⟩ := open_int Try.underlying2 (hval 2 2 v2 rfl rfl) h2
  obtain ⟨g, rfl, rfl, rfl, wg⟩ := open_int Try.underlying2 (hval 3 2 v3 rfl rfl) h3
  obtain ⟨t, rfl, rfl, rfl, wt⟩ := open_int Try.underlying2 (hval 4 2 v4 rfl rfl) h4
  obtain ⟨cs, rfl, hcs⟩ := arg_agg (m := 4) (ks := [.num .i32, .num .i32, .num .i32, .num .i32, .num .i32, .num .i32]) (by kernel_rfl) (by kernel_rfl) (hval 5 23 v5 rfl rfl) h5
  obtain ⟨c0, c1, c2, c3, c4, c5, rfl, b0, b1, b2, b3, b4, b5⟩ := six hcs
  obtain ⟨lt, rfl, rfl, rfl, wlt⟩ := open_int Try.underlying2 (hval 6 2 v6 rfl rfl) h6
  obtain ⟨ms, hms, wms, lms⟩ := arg_slice (numP .i64) (fun x => (Lit.int .i64 x).wf = true) Try.underlying24 (m := 3) (ks := [.num .i64]) (by kernel_rfl) (by kernel_rfl) (num_fits .i64) (hval 7 24 v7 rfl rfl) h7
  simp only [List.append_nil] at hW' hAk
  refine ((F3 kd s l g t lt c0 c1 c2 c3 c4 c5 ms b0 b1 b2 b3 b4 b5).calls _ W NoS (fun _ _ => id) (.cons arg_is (.cons arg_is (.cons arg_is (.cons arg_is (.cons arg_is (.cons arg_is (.cons arg_is (.cons hms (.nil)))))))))).mono fun e W' ⟨v, he, hk, hv⟩ => ?_
  subst he
  obtain rfl : v = .bool true := hv.now
  exact ⟨_, rfl, post_law TopWindows.laidT (by kernel_rfl) hW' hAk rfl rfl rfl (by kernel_rfl) Try.underlying4 hk⟩
theorem TopWindows_holds : Rows.TopWindowsSaid :=
  OpenClaim.holds_of_wide 3 Try.f3 rfl rfl rfl rfl rfl rfl rfl ⟨rfl, rfl, rfl, rfl, rfl⟩ rfl rfl rfl rfl rfl (by kernel_rfl) Try.func3 (by kernel_rfl)
    (of_decide_eq_true (by kernel_rfl)) (by unfold Func.isWrapper; first | (rw [if_pos (by decide +kernel)]; kernel_rfl) | (rw [if_neg (by decide +kernel)]; exact ⟨rfl, rfl⟩))
    (fun os started H enc _ => TopWindows_lifted os started H enc)
end Go.Proofs.Ytemkogoclljhpaa
