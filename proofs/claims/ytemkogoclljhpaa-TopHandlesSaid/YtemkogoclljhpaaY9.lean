/- The given statement on TopHandles, for every input: the call returns true and the arguments read as they read before. No condition. -/
import Derived.Test.YtemkogoclljhpaaY8
import Derived.Test.YtemkogoclljhpaaLH
import Derived.Test.YtemkogoclljhpaaRows
namespace Go.Proofs.Ytemkogoclljhpaa
open Go Go.ChangeShapes Go.WideShapes Go.ChangeAt Go.RowKit Go.Proofs.Ytemkogoclljhpaa.L
set_option linter.unusedVariables false
set_option linter.unusedSimpArgs false
theorem TopHandles.ownT : ownKnob Try.prog.godebug = none := by kernel_rfl
theorem TopHandles.laidT : laidOutB Try.prog = true := by kernel_rfl

theorem grip_fits : ∀ cs, FitsL [.num .u8, .num .u8, .num .u8, .num .u8] cs → ∃ x, cs = gripP.enc x ∧ okG x := by
  intro cs h
  rcases h with _ | ⟨⟨a, rfl, wa⟩, _ | ⟨⟨b, rfl, wb⟩, _ | ⟨⟨c, rfl, wc⟩, _ | ⟨⟨d, rfl, wd⟩, _ | _⟩⟩⟩⟩
  exact ⟨(a, b, c, d), rfl, bounds_u8 wa, bounds_u8 wb, bounds_u8 wc, bounds_u8 wd⟩

set_option maxRecDepth 100000 in
theorem TopHandles_lifted (os : Os) (started : os.Started) (H : Type) (enc : TypeId × Value → H) :
    ReturnsInHanded {} Try.checked os 4 .any (Rows.topHandlesSpec.pre6 enc Try.prog Try.f4 Rows.topHandlesRow.domain false) (Rows.topHandlesSpec.post enc Try.prog Try.f4 false true false false) := by
  refine returnsInHanded_of_change (C := Try.checked) TopHandles.ownT started (by kernel_rfl) Try.func4
    (ChangeSpec.witness6 (enc := enc) (C := Try.checked) false ⟨#[], #[.slice none 0 0], []⟩ 8 (by kernel_rfl) (by kernel_rfl) (by kernel_rfl) (by kernel_rfl)) ?_
  intro W base args ds gs before hval0 hW hcnd _
  have hval : ∀ (j : Nat) t v, Try.f4.params[j]? = some t → args[j]? = some v → Value.okWide Try.prog W .any base t v := hval0
  have hW' := hW
  obtain ⟨p, q, hA0, hV, rfl, hfz, hnd⟩ := hW
  have hA : DataW.TrodAll enc Try.prog W 0 (fun _ => true) true Try.f4.params.toList args.toList ds p := hA0
  have hAk := hA
  rw [Try.params4] at hA hval
  obtain ⟨v0, vs0, d0, ds0, p0, q0, hargs, rfl, rfl, h0, r0⟩ := trodAll_cons hA
  obtain ⟨rfl, rfl, rfl⟩ := trodAll_nil r0
  obtain rfl : args = #[v0] := by cases args; simp_all
  obtain ⟨rfl, rfl⟩ := trodVars_none hV
  obtain ⟨hz, hhz, whz, lhz⟩ := arg_slice gripP okG Try.underlying38 (m := 4) (ks := [.num .u8, .num .u8, .num .u8, .num .u8]) (by kernel_rfl) (by kernel_rfl) grip_fits (hval 0 38 v0 rfl rfl) h0
  simp only [List.append_nil] at hW' hAk
  refine ((F4 hz lhz whz).calls _ W NoS (fun _ _ => id) (.cons hhz (.nil))).mono fun e W' ⟨v, he, hk, hv⟩ => ?_
  subst he
  obtain rfl : v = .bool true := hv.now
  exact ⟨_, rfl, post_law TopHandles.laidT (by kernel_rfl) hW' hAk rfl rfl rfl (by kernel_rfl) Try.underlying4 hk⟩
theorem TopHandles_holds : Rows.TopHandlesSaid :=
  OpenClaim.holds_of_wide 4 Try.f4 rfl rfl rfl rfl rfl rfl rfl ⟨rfl, rfl, rfl, rfl, rfl⟩ rfl rfl rfl rfl rfl (by kernel_rfl) Try.func4 (by kernel_rfl)
    (of_decide_eq_true (by kernel_rfl)) (by unfold Func.isWrapper; first | (rw [if_pos (by decide +kernel)]; kernel_rfl) | (rw [if_neg (by decide +kernel)]; exact ⟨rfl, rfl⟩))
    (fun os started H enc _ => TopHandles_lifted os started H enc)
end Go.Proofs.Ytemkogoclljhpaa
