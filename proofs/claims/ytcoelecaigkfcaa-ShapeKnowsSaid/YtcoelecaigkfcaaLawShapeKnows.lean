/- The row of ShapeKnows: whatever the shape, the law returns true and the shape reads as it did. No condition. -/
import Derived.Test.YtcoelecaigkfcaaRows
import Derived.Test.YtcoelecaigkfcaaKx13
import Derived.Test.YtcoelecaigkfcaaPureK7
import Derived.Test.YtcoelecaigkfcaaOpens
import Derived.WalkKit
import Derived.ProofKit
import Derived.OpenShut
import Derived.ChangeOld
import Derived.Below
import Derived.Carry
import Derived.SizedLaws
import Derived.Lib.SmallJoins
namespace Go.Proofs.Ytcoelecaigkfcaa.shapeKnows
open Go.ChangeShapes Go.WideShapes Go.ChangeAt Go.RowKit Go.Proofs.Ytcoelecaigkfcaa.K Go.Proofs.YtcoelecaigkfcaaW.PrintWords
set_option linter.unusedVariables false
theorem own : ownKnob Try.prog.godebug = none := by kernel_rfl
theorem laidOut : laidOutB Try.prog = true := by kernel_rfl
theorem opens38 : Opens Try.prog 38 k38 (fun _ => True) :=
  Opens.iso (f := fun x : S38 => (x.f0, x.f1, x.f2, x.f3)) (g := fun x => ⟨x.1, x.2.1, x.2.2.1, x.2.2.2⟩) (fun _ => rfl) (fun _ _ => trivial)
    (Opens.struct Try.underlying38 (by kernel_rfl) (OpensAt.cons rfl (by kernel_rfl) (Opens.int Try.underlying3) (OpensAt.cons rfl (by kernel_rfl) (Opens.int Try.underlying3) (OpensAt.cons rfl (by kernel_rfl) (Opens.int Try.underlying3) (OpensAt.one rfl (by kernel_rfl) (Opens.int Try.underlying3))))))
set_option maxRecDepth 100000 in
theorem lifted (os : Os) (started : os.Started) (H : Type) (enc : TypeId × Value → H) :
    ReturnsInHanded {} Try.checked os 5 .any (Rows.shapeKnowsSpec.pre6 enc Try.prog Try.f5 Rows.shapeKnowsRow.domain false) (Rows.shapeKnowsSpec.post enc Try.prog Try.f5 false true false false) := by
  refine returnsInHanded_of_change_sized (C := Try.checked) own started (by kernel_rfl) Try.func5
    (ChangeSpec.witness6 (enc := enc) (C := Try.checked) false ⟨#[], #[.agg #[.slice none 0 0, .slice none 0 0], .int .i64 0], []⟩ 8 (by kernel_rfl) (by kernel_rfl) (by kernel_rfl) (by kernel_rfl)) ?_
  intro W base args ds gs before hval0 hW hcnd hsz0 _
  clear hsz0
  have hval : ∀ (j : Nat) t v, Try.f5.params[j]? = some t → args[j]? = some v → Value.okWide Try.prog W .any base t v := hval0
  have hW' := hW
  obtain ⟨p, q, hA0, hV, rfl, hfz, hnd⟩ := hW
  have hA : DataW.TrodAll enc Try.prog W 0 (fun _ => true) true Try.f5.params.toList args.toList ds p := hA0
  rw [Try.params5] at hA hval
  obtain ⟨v0, vs0, d0, ds0, p0, q0, hargs, rfl, rfl, h0, r0⟩ := trodAll_cons hA
  obtain ⟨v1, vs1, d1, ds1, p1, q1, rfl, rfl, rfl, h1, r1⟩ := trodAll_cons r0
  obtain ⟨rfl, rfl, rfl⟩ := trodAll_nil r1
  obtain rfl : args = #[v0, v1] := by cases args; simp_all
  obtain ⟨a1, rfl, rfl, rfl, z1⟩ := open_int Try.underlying3 (hval 1 3 v1 rfl rfl) h1
  obtain ⟨rfl, rfl⟩ := trodVars_none hV
  have hlt : ∀ x ∈ p0, x.block < W.heap.size := fun x hx => by simpa using hW'.lt x (by simpa using hx)
  have h0k := h0
  obtain ⟨u0, u1, y0, y1, n, rfl, rfl, rfl, t0, t1⟩ := Go.Joins.open_agg2 Try.underlying25 (by kernel_rfl) (by kernel_rfl) (hval 0 25 v0 rfl rfl) h0
  obtain ⟨E, ⟨A0, c0, e0, hc0, hE⟩, _⟩ := Opens.slice Try.underlying22 (by kernel_rfl) opens38 H enc W 0 _ _ n _ _ t0
  obtain ⟨S, ⟨A1, c1, e1, hc1, hS⟩, _⟩ := Opens.slice Try.underlying23 (by kernel_rfl) (Opens.int Try.underlying3) H enc W 0 _ _ n _ _ t1
  obtain rfl : u0 = _ := List.singleton_inj.1 e0
  obtain rfl : u1 = _ := List.singleton_inj.1 e1
  clear hA0 hval0
  obtain ⟨k, hk⟩ := (Pure.knows_ev E S a1).rounds
  refine (fathomlaw27_ShapeKnows.calls k A0 c0 E A1 c1 S a1 true W hE hc0 hS hc1 hk).mono fun e W' ⟨he, bel⟩ => ?_
  subst he
  exact ⟨_, rfl, _, _, _, [], _, [], hW', trodAll_mk1 (shut_bool Try.underlying4 _), (trodAll_cons_mk (Below.trod laidOut (by kernel_rfl) (of_decide_eq_true (by kernel_rfl)) h0k bel hlt) (trodAll_cons_mk (shut_int Try.underlying3 z1) trodAll_mk0)), rfl, bel.frame _, fun h => by cases h⟩
theorem over : Rows.shapeKnowsRow.holds Try.pinned (OpenSpec.ofChange Rows.shapeKnowsSpec) :=
  OpenClaim.holds_of_wide 5 Try.f5 rfl rfl rfl rfl rfl rfl rfl ⟨rfl, rfl, rfl, rfl, rfl⟩ rfl rfl rfl rfl rfl (by kernel_rfl) Try.func5 (by kernel_rfl)
    (of_decide_eq_true (by kernel_rfl)) (by unfold Func.isWrapper; first | (rw [if_pos (by decide +kernel)]; kernel_rfl) | (rw [if_neg (by decide +kernel)]; exact ⟨rfl, rfl⟩))
    (fun os started H enc _ => lifted os started H enc)
theorem proved : Rows.ShapeKnowsSaid := over
#print axioms proved
end Go.Proofs.Ytcoelecaigkfcaa.shapeKnows
namespace Go.Proofs.Ytcoelecaigkfcaa
/-- The row, under a short name, for the claim. -/
theorem shapeKnows_holds : Rows.ShapeKnowsSaid := shapeKnows.proved
end Go.Proofs.Ytcoelecaigkfcaa
