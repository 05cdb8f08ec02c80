/- The given statement on TopSums, for every input: the call returns true and the arguments read as they read before. No condition. -/
import Derived.Test.YtemkogoclljhpaaSC
import Derived.Test.YtemkogoclljhpaaLH
import Derived.Test.YtemkogoclljhpaaRows
namespace Go.Proofs.Ytemkogoclljhpaa
open Go Go.ChangeShapes Go.WideShapes Go.ChangeAt Go.RowKit Go.Proofs.Ytemkogoclljhpaa.L
set_option linter.unusedVariables false
set_option linter.unusedSimpArgs false
theorem TopSums.ownT : ownKnob Try.prog.godebug = none := by kernel_rfl
theorem TopSums.laidT : laidOutB Try.prog = true := by kernel_rfl

theorem line_fits : ∀ cs, FitsL [.str, .num .i8, .num .i8, .num .i64] cs → ∃ x, cs = lineP.enc x ∧ True := by
  intro cs h
  rcases h with _ | ⟨⟨s, rfl, _⟩, _ | ⟨⟨a, rfl, _⟩, _ | ⟨⟨b, rfl, _⟩, _ | ⟨⟨c, rfl, _⟩, _ | _⟩⟩⟩⟩
  exact ⟨(s, a, b, c), rfl, trivial⟩

set_option maxRecDepth 100000 in
theorem TopSums_lifted (os : Os) (started : os.Started) (H : Type) (enc : TypeId × Value → H) :
    ReturnsInHanded {} Try.checked os 6 .any (Rows.topSumsSpec.pre6 enc Try.prog Try.f6 Rows.topSumsRow.domain false) (Rows.topSumsSpec.post enc Try.prog Try.f6 false true false false) := by
  refine returnsInHanded_of_change (C := Try.checked) TopSums.ownT started (by kernel_rfl) Try.func6
    (ChangeSpec.witness6 (enc := enc) (C := Try.checked) false ⟨#[], #[.int .i64 0, .int .i64 0, .int .i64 0, .slice none 0 0, .slice none 0 0, .slice none 0 0], []⟩ 8 (by kernel_rfl) (by kernel_rfl) (by kernel_rfl) (by kernel_rfl)) ?_
  intro W base args ds gs before hval0 hW hcnd _
  have hval : ∀ (j : Nat) t v, Try.f6.params[j]? = some t → args[j]? = some v → Value.okWide Try.prog W .any base t v := hval0
  have hW' := hW
  obtain ⟨p, q, hA0, hV, rfl, hfz, hnd⟩ := hW
  have hA : DataW.TrodAll enc Try.prog W 0 (fun _ => true) true Try.f6.params.toList args.toList ds p := hA0
  have hAk := hA
  rw [Try.params6] at hA hval
  obtain ⟨v0, vs0, d0, ds0, p0, q0, hargs, rfl, rfl, h0, r0⟩ := trodAll_cons hA
  obtain ⟨v1, vs1, d1, ds1, p1, q1, rfl, rfl, rfl, h1, r1⟩ := trodAll_cons r0
  obtain ⟨v2, vs2, d2, ds2, p2, q2, rfl, rfl, rfl, h2, r2⟩ := trodAll_cons r1
  obtain ⟨v3, vs3, d3, ds3, p3, q3, rfl, rfl, rfl, h3, r3⟩ := trodAll_cons r2
  obtain ⟨v4, vs4, d4, ds4, p4, q4, rfl, rfl, rfl, h4, r4⟩ := trodAll_cons r3
  obtain ⟨v5, vs5, d5, ds5, p5, q5, rfl, rfl, rfl, h5, r5⟩ := trodAll_cons r4
  obtain ⟨rfl, rfl, rfl⟩ := trodAll_nil r5
  obtain rfl : args = #[v0, v1, v2, v3, v4, v5] := by cases args; simp_all
  obtain ⟨rfl, rfl⟩ := trodVars_none hV
  obtain ⟨a, rfl, rfl, rfl, wa⟩ := open_int Try.underlying2 (hval 0 2 v0 rfl rfl) h0
  obtain ⟨b, rfl, rfl, rfl, wb⟩ := open_int Try.underlying2 (hval 1 2 v1 rfl rfl) h1
  obtain ⟨d, rfl, rfl, rfl, wd⟩ := open_int Try.underlying2 (hval 2 2 v2 rfl rfl) h2
  obtain ⟨xs, hxs, wxs, lxs⟩ := arg_slice (numP .i64) (fun x => (Lit.int .i64 x).wf = true) Try.underlying24 (m := 3) (ks := [.num .i64]) (by kernel_rfl) (by kernel_rfl) (num_fits .i64) (hval 3 24 v3 rfl rfl) h3
  obtain ⟨ps, hps, wps, lps⟩ := arg_slice (numP .u8) (fun x => (Lit.int .u8 x).wf = true) Try.underlying46 (m := 3) (ks := [.num .u8]) (by kernel_rfl) (by kernel_rfl) (num_fits .u8) (hval 4 46 v4 rfl rfl) h4
  obtain ⟨ls, hls, wls, lls⟩ := arg_slice lineP (fun _ => True) Try.underlying47 (m := 4) (ks := [.str, .num .i8, .num .i8, .num .i64]) (by kernel_rfl) (by kernel_rfl) line_fits (hval 5 47 v5 rfl rfl) h5
  simp only [List.append_nil] at hW' hAk
  refine ((F6 a b d xs ps ls (bounds_i64 wa) (bounds_i64 wb) (bounds_i64 wd) (fun x hx => bounds_i64 (wxs x hx)) (fun p hp => bounds_u8 (wps p hp)) lls).calls _ W NoS (fun _ _ => id) (.cons arg_is (.cons arg_is (.cons arg_is (.cons hxs (.cons hps (.cons hls (.nil)))))))).mono fun e W' ⟨v, he, hk, hv⟩ => ?_
  subst he
  obtain rfl : v = .bool true := hv.now
  exact ⟨_, rfl, post_law TopSums.laidT (by kernel_rfl) hW' hAk rfl rfl rfl (by kernel_rfl) Try.underlying4 hk⟩
theorem TopSums_holds : Rows.TopSumsSaid :=
  OpenClaim.holds_of_wide 6 Try.f6 rfl rfl rfl rfl rfl rfl rfl ⟨rfl, rfl, rfl, rfl, rfl⟩ rfl rfl rfl rfl rfl (by kernel_rfl) Try.func6 (by kernel_rfl)
    (of_decide_eq_true (by kernel_rfl)) (by unfold Func.isWrapper; first | (rw [if_pos (by decide +kernel)]; kernel_rfl) | (rw [if_neg (by decide +kernel)]; exact ⟨rfl, rfl⟩))
    (fun os started H enc _ => TopSums_lifted os started H enc)
end Go.Proofs.Ytemkogoclljhpaa
