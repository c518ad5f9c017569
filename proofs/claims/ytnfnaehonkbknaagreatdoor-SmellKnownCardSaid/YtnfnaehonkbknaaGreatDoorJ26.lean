/- Texts SmGl PSmellKnown SSmellKnown. -/
import Derived.Test.YtnfnaehonkbknaaGreatDoorJ25
import Derived.Test.YtnfnaehonkbknaaGreatDoorAFactA
import Derived.Test.YtnfnaehonkbknaaGreatDoorAFactSB
import Derived.Test.YtnfnaehonkbknaaGreatDoorAFactSC
set_option linter.defProp false
set_option linter.unusedSimpArgs false
set_option linter.unusedVariables false
set_option maxRecDepth 100000
set_option maxHeartbeats 2000000
section
namespace Go.Proofs.YtnfnaehonkbknaaGreatDoor
open Go Go.X Go.ChangeShapes Go.WideShapes Go.RowKit
set_option maxRecDepth 100000 in
theorem glob0 : Tryz.prog.globalNamed "errors.errorType" = some 0 := by kernel_rfl
set_option maxRecDepth 100000 in
theorem glob1 : ∀ ty, ty < Tryz.prog.types.size -> Tryz.prog.rowNamed ty [101, 114, 114, 111, 114] = true -> ty = 103 := by
 have h : (List.range Tryz.prog.types.size).all (fun ty => !Tryz.prog.rowNamed ty [101, 114, 114, 111, 114] || ty == 103) = true := by kernel_rfl
 intro ty h1 h2
 have h3 := List.all_eq_true.1 h ty (List.mem_range.2 h1)
 rw [h2] at h3
 simpa using h3
set_option maxRecDepth 100000 in
theorem glob2 : (Tryz.prog.cutTypes.find? (·.1 == "internal/reflectlite.rtype")).map (·.2) = some 181 := by kernel_rfl
set_option maxRecDepth 100000 in
theorem glob3 (ty : TypeId) : typeHandle Tryz.prog ty = .pointer (some ⟨1, ty, none⟩) := by
 unfold typeHandle
 rw [show Tryz.prog.globals.size = 1 by kernel_rfl]
theorem laid_err {W : World} (h : laidMetH Tryz.prog [("errors.errorType", Rows.laid_errors_errorType)] W) : ErrS (Aw3 W) := by
 have h2 : handlesMet Tryz.prog [("errors.errorType", Rows.laid_errors_errorType)] W := h.2
 obtain ⟨name, u, ty, h3, h4, h5, h6, h7⟩ := h2 _ List.mem_cons_self
 have e3 : name = [101, 114, 114, 111, 114] := (Option.some.inj h3).symm
 subst e3
 have e4 := glob1 ty h5 h6
 subst e4
 rw [glob2] at h4
 have e5 := Option.some.inj h4
 subst e5
 rw [glob3] at h7
 unfold World.var? at h7
 rw [glob0, Option.bind_some] at h7
 split at h7
 ·rename_i cs t f hw
  have e6 := Option.some.inj h7
  subst e6
  exact ⟨false, #[.iface 181 (.agg #[.pointer (some ⟨1, 103, none⟩)])], t, f, by unfold Aw3; rw [hw]; rfl, rfl⟩
 ·cases h7
end Go.Proofs.YtnfnaehonkbknaaGreatDoor
end
section
namespace Go.Proofs.YtnfnaehonkbknaaGreatDoor
open Go Go.X Go.ChangeShapes Go.WideShapes Go.RowKit Go.Proofs.Tryz
set_option maxRecDepth 100000 in
theorem law_lifted (os : Os) (started : os.Started) (H : Type) (enc : TypeId × Value -> H) :
  ReturnsInLeavingWide {} Tryz.checked os 6 .any (fun w args => (Rows.smellKnownSpec.pre enc Tryz.prog Tryz.f6 [] false w args /\ laidMetH Tryz.prog [("errors.errorType", Rows.laid_errors_errorType)] w) /\ sizedMet enc Tryz.prog Tryz.f6 (OpenSpec.ofChange Rows.smellKnownSpec) false w args)
   (Rows.smellKnownSpec.post enc Tryz.prog Tryz.f6 false true false false) := by
 refine leaving_of_change_and (C := Tryz.checked) (X := fun w _ => laidMetH Tryz.prog [("errors.errorType", Rows.laid_errors_errorType)] w) (fun _ _ _ hh h => h.of_heap hh) ownK started func6
  (ChangeSpec.witness_at (enc := enc) (C := Tryz.checked) (os := os) (X := fun w _ => laidMetH Tryz.prog [("errors.errorType", Rows.laid_errors_errorType)] w) false (laidWorld os) #[] 8 rfl (by kernel_rfl) (by kernel_rfl) (by kernel_rfl) (by kernel_rfl) (by kernel_rfl) (laidWorld_met os _)) ?_
 intro W base args ds gs before hval0 hW hL
 have hval : ∀ (j : Nat) t v, Tryz.f6.params[j]? = some t -> args[j]? = some v -> Value.okWide Tryz.prog W .any base t v := hval0
 have hW' := hW
 obtain ⟨p, q, hA0, hV0, rfl, hfz, hnd⟩ := hW
 have hA : DataW.TrodAll enc Tryz.prog W 0 (fun _ => true) true Tryz.f6.params.toList args.toList ds p := hA0
 have hV : DataW.TrodVars enc Tryz.prog W (fun _ => true) [] gs q := hV0
 rw [params6] at hA hval
 obtain ⟨rfl, rfl, rfl⟩ := trodAll_none hA
 obtain ⟨rfl, rfl⟩ : gs = [] /\ q = [] := by
  cases gs with
  | nil => exact ⟨rfl, hV⟩
  | cons g r => exact absurd hV (by intro h; cases h)
 have e1 : Rows.smellKnownSpec.fn H ([] ++ []) = { results := [.lit (.bool true)], args := [] } := by simp [Rows.smellKnownSpec]
 obtain ⟨N, last, o, w', t', r1, r2, r3, v, hv, ⟨rfl, hB⟩, r4⟩ := (lsknown_spec (Aw3 W) (laid_err hL)).goodW func6 (results_tmp results6 _) (by kernel_rfl)
 refine ⟨N, last, o, w', t', r1, r2, r3, _, hv, ?_, r4⟩
 have hb := hB.below
 refine ⟨_, _, _, [], [], [], hW', ?_, ?_, ?_, hB.kept _, fun h => by cases h⟩
 ·rw [e1]; exact trodAll_mk1 (shut_bool underlying4 true)
 ·rw [e1]; exact trodAll_mk0
 ·rw [e1]; rfl
end Go.Proofs.YtnfnaehonkbknaaGreatDoor
end
section
namespace Go.Proofs.YtnfnaehonkbknaaGreatDoor
open Go Go.X Go.ChangeShapes Go.WideShapes Go.RowKit Go.Proofs.Tryz
theorem jEnter : Program.mayEnter Tryz.pinned.checked.prog = true := factEnter
theorem jLift : (Rows.smellKnownRow.lifted == Program.liftsFinal Tryz.pinned.checked.prog) = true := by rw [show Program.liftsFinal Tryz.pinned.checked.prog = Rows.smellKnownRow.lifted from factLift]; exact beq_self_eq_true _
theorem jMake : (Program.make Tryz.pinned.checked.prog == some Rows.smellKnownRow.make) = true := by rw [show Program.make Tryz.pinned.checked.prog = some Rows.smellKnownRow.make from factMake]; exact beq_self_eq_true _
set_option maxRecDepth 100000 in
theorem jf : joinedFacts Tryz.pinned.checked.prog 6 Tryz.f6 Rows.smellKnownSpec Rows.smellKnownRow = true := by
 unfold joinedFacts
 simp only [jEnter, jLift, jMake, Bool.and_true]
 kernel_rfl
set_option maxRecDepth 100000 in
theorem smellKnown_said : Rows.SmellKnownSaid :=
 OpenClaim.holds_of_wide_leaving 6 Tryz.f6 rfl rfl rfl rfl rfl rfl rfl ⟨rfl, rfl, rfl, rfl, rfl⟩ rfl rfl rfl rfl rfl (by kernel_rfl) func6 jf
  (of_decide_eq_true (by kernel_rfl)) (by unfold Func.isWrapper; rw [if_neg (of_decide_eq_false (by kernel_rfl))]; exact ⟨rfl, rfl⟩)
  (fun os started H enc _ => law_lifted os started H enc)
end Go.Proofs.YtnfnaehonkbknaaGreatDoor
end
