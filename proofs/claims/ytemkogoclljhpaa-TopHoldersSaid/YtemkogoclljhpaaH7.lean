/- The given statement on TopHolders, for every input: the call returns true and the arguments read as they read before. No condition. -/
import Derived.Test.YtemkogoclljhpaaH6
import Derived.Test.YtemkogoclljhpaaLH
import Derived.Test.YtemkogoclljhpaaRows
namespace Go.Proofs.Ytemkogoclljhpaa
open Go Go.ChangeShapes Go.WideShapes Go.ChangeAt Go.RowKit Go.Proofs.Ytemkogoclljhpaa.L
set_option linter.unusedVariables false
set_option linter.unusedSimpArgs false
theorem TopHolders.ownT : ownKnob Try.prog.godebug = none := by kernel_rfl
theorem TopHolders.laidT : laidOutB Try.prog = true := by kernel_rfl

theorem hold_fits : ∀ cs, FitsL [.num .u8, .num .u8, .num .u8, .num .u8, .num .u8, .bit] cs → ∃ x, cs = holdP.enc x ∧ okH x := by
  intro cs h
  rcases h with _ | ⟨⟨a, rfl, wa⟩, _ | ⟨⟨b, rfl, wb⟩, _ | ⟨⟨c, rfl, wc⟩, _ | ⟨⟨d, rfl, wd⟩, _ | ⟨⟨e, rfl, we⟩, _ | ⟨⟨f, rfl⟩, _ | _⟩⟩⟩⟩⟩⟩
  exact ⟨(a, b, c, d, e, f), rfl, bounds_u8 wa, bounds_u8 wb, bounds_u8 wc, bounds_u8 wd, bounds_u8 we⟩

set_option maxRecDepth 100000 in
theorem TopHolders_lifted (os : Os) (started : os.Started) (H : Type) (enc : TypeId × Value → H) :
    ReturnsInHanded {} Try.checked os 5 .any (Rows.topHoldersSpec.pre6 enc Try.prog Try.f5 Rows.topHoldersRow.domain false) (Rows.topHoldersSpec.post enc Try.prog Try.f5 false true false false) := by
  refine returnsInHanded_of_change (C := Try.checked) TopHolders.ownT started (by kernel_rfl) Try.func5
    (ChangeSpec.witness6 (enc := enc) (C := Try.checked) false ⟨#[], #[.int .i8 0, .slice none 0 0], []⟩ 8 (by kernel_rfl) (by kernel_rfl) (by kernel_rfl) (by kernel_rfl)) ?_
  intro W base args ds gs before hval0 hW hcnd _
  have hval : ∀ (j : Nat) t v, Try.f5.params[j]? = some t → args[j]? = some v → Value.okWide Try.prog W .any base t v := hval0
  have hW' := hW
  obtain ⟨p, q, hA0, hV, rfl, hfz, hnd⟩ := hW
  have hA : DataW.TrodAll enc Try.prog W 0 (fun _ => true) true Try.f5.params.toList args.toList ds p := hA0
  have hAk := hA
  rw [Try.params5] at hA hval
  obtain ⟨v0, vs0, d0, ds0, p0, q0, hargs, rfl, rfl, h0, r0⟩ := trodAll_cons hA
  obtain ⟨v1, vs1, d1, ds1, p1, q1, rfl, rfl, rfl, h1, r1⟩ := trodAll_cons r0
  obtain ⟨rfl, rfl, rfl⟩ := trodAll_nil r1
  obtain rfl : args = #[v0, v1] := by cases args; simp_all
  obtain ⟨rfl, rfl⟩ := trodVars_none hV
  obtain ⟨a, rfl, rfl, rfl, wa⟩ := open_int Try.underlying42 (hval 0 42 v0 rfl rfl) h0
  obtain ⟨hz, hhz, whz, lhz⟩ := arg_slice holdP okH Try.underlying43 (m := 4) (ks := [.num .u8, .num .u8, .num .u8, .num .u8, .num .u8, .bit]) (by kernel_rfl) (by kernel_rfl) hold_fits (hval 1 43 v1 rfl rfl) h1
  simp only [List.append_nil] at hW' hAk
  refine ((F5 a hz (bounds_i8 wa) lhz whz).calls _ W NoS (fun _ _ => id) (.cons arg_is (.cons hhz (.nil)))).mono fun e W' ⟨v, he, hk, hv⟩ => ?_
  subst he
  obtain rfl : v = .bool true := hv.now
  exact ⟨_, rfl, post_law TopHolders.laidT (by kernel_rfl) hW' hAk rfl rfl rfl (by kernel_rfl) Try.underlying4 hk⟩
theorem TopHolders_holds : Rows.TopHoldersSaid :=
  OpenClaim.holds_of_wide 5 Try.f5 rfl rfl rfl rfl rfl rfl rfl ⟨rfl, rfl, rfl, rfl, rfl⟩ rfl rfl rfl rfl rfl (by kernel_rfl) Try.func5 (by kernel_rfl)
    (of_decide_eq_true (by kernel_rfl)) (by unfold Func.isWrapper; first | (rw [if_pos (by decide +kernel)]; kernel_rfl) | (rw [if_neg (by decide +kernel)]; exact ⟨rfl, rfl⟩))
    (fun os started H enc _ => TopHolders_lifted os started H enc)
end Go.Proofs.Ytemkogoclljhpaa
