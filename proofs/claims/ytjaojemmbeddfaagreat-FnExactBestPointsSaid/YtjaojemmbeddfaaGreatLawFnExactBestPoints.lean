-- Printed by hprint.py (this session's program): the row of the law laws_FnExactBestPoints. Lean checks it.
import Derived.Test.YtjaojemmbeddfaaGreatRows
import Derived.Test.YtjaojemmbeddfaaGreatG6
import Derived.Test.YtjaojemmbeddfaaGreatPureFnExactBestPoints
import Derived.Test.YtjaojemmbeddfaaGreatPOpen
import Derived.WalkKit
import Derived.ProofKit
import Derived.OpenShut
import Derived.ShutString
import Derived.ChangeOld
import Derived.Below
import Derived.SizedLaws
namespace Go.Proofs.YtjaojemmbeddfaaGreat.fnExactBestPoints
open Go.ChangeShapes Go.WideShapes Go.ChangeAt Go.RowKit Go.Proofs.YtjaojemmbeddfaaGreat.Open Go.Proofs.YtjaojemmbeddfaaGreat.Hd Go.Proofs.YtjaojemmbeddfaaGreatW.PrintWords Go.Proofs.YtjaojemmbeddfaaGreatW.PrintLast
open Go.ChangeMaps (open_string shut_string)
set_option linter.unusedVariables false
theorem own : ownKnob Tryz.prog.godebug = none := by kernel_rfl
theorem laidOut : laidOutB Tryz.prog = true := by kernel_rfl
set_option maxRecDepth 100000 in
theorem lifted (os : Os) (started : os.Started) (H : Type) (enc : TypeId × Value → H) :
    ReturnsInHanded {} Tryz.checked os 5 .any (Rows.fnExactBestPointsSpec.pre6 enc Tryz.prog Tryz.f5 Rows.fnExactBestPointsRow.domain false) (Rows.fnExactBestPointsSpec.post enc Tryz.prog Tryz.f5 false true false false) := by
  refine returnsInHanded_of_change_sized (C := Tryz.checked) own started (by kernel_rfl) Tryz.func5
    (ChangeSpec.witness6 (enc := enc) (C := Tryz.checked) false ⟨#[], #[.agg #[.slice none 0 0, .slice none 0 0, .slice none 0 0, .int .i64 0, .int .i64 0]], []⟩ 8 (by kernel_rfl) (by kernel_rfl) (by kernel_rfl) (by kernel_rfl)) ?_
  intro W base args ds gs before hval0 hW hcnd hsz0 _
  have hsz : (DataW.weightsEach Tryz.prog (Tryz.f5.params.toList ++ Rows.fnExactBestPointsSpec.plain.varTypes Tryz.prog) (ds ++ gs)).all (· ≤ reachBytes) = true := hsz0
  have hval : ∀ (j : Nat) t v, Tryz.f5.params[j]? = some t → args[j]? = some v → Value.okWide Tryz.prog W .any base t v := hval0
  have hW' := hW
  obtain ⟨p, q, hA0, hV, rfl, hfz, hnd⟩ := hW
  have hA : DataW.TrodAll enc Tryz.prog W 0 (fun _ => true) true Tryz.f5.params.toList args.toList ds p := hA0
  rw [Tryz.params5] at hA hval hsz
  obtain ⟨v0, vs0, d0, ds0, p0, q0, hargs, rfl, rfl, h0, r0⟩ := trodAll_cons hA
  obtain ⟨rfl, rfl, rfl⟩ := trodAll_nil r0
  obtain rfl : args = #[v0] := by cases args; simp_all
  obtain ⟨rfl, rfl⟩ := trodVars_none hV
  have k0 := h0
  have lt0 : ∀ x ∈ p0, x.block < W.heap.size := by obtain ⟨m, hm⟩ := k0; exact DataW.trod_lt m _ _ _ hm
  obtain ⟨u0_0, u0_1, u0_2, u0_3, u0_4, y0_0, y0_1, y0_2, y0_3, y0_4, n0, rfl, g0_0, g0_1, g0_2, g0_3, g0_4⟩ := open_agg5 Tryz.underlying25 (by kernel_rfl) (by kernel_rfl) (hval 0 25 v0 rfl rfl) h0
  obtain ⟨A0_0, c0_0, l0_0, rfl, hc0_0, hC0_0⟩ := open_field (d := k59) (e := 59) (tells_slice Tryz.underlying22 (by kernel_rfl) (tells_iso (fun x : S_LTile => (x.f0, x.f1)) (fun p => ⟨p.1, p.2⟩) (fun _ => rfl) (tells_pair Tryz.underlying59 (by rfl) (by kernel_rfl) (by kernel_rfl) (tells_int Tryz.underlying3) (tells_int Tryz.underlying3)))) g0_0
  obtain ⟨A0_1, c0_1, l0_1, rfl, hc0_1, hC0_1⟩ := open_field (d := k59) (e := 59) (tells_slice Tryz.underlying22 (by kernel_rfl) (tells_iso (fun x : S_LTile => (x.f0, x.f1)) (fun p => ⟨p.1, p.2⟩) (fun _ => rfl) (tells_pair Tryz.underlying59 (by rfl) (by kernel_rfl) (by kernel_rfl) (tells_int Tryz.underlying3) (tells_int Tryz.underlying3)))) g0_1
  obtain ⟨A0_2, c0_2, l0_2, rfl, hc0_2, hC0_2⟩ := open_field (d := (Kd.int .i64)) (e := 3) (tells_slice Tryz.underlying23 (by kernel_rfl) (tells_int Tryz.underlying3)) g0_2
  obtain ⟨a0_3, e0_3, -, w0_3⟩ := DataW.trod_int Tryz.underlying3 g0_3
  simp at e0_3
  subst e0_3
  obtain ⟨a0_4, e0_4, -, w0_4⟩ := DataW.trod_int Tryz.underlying3 g0_4
  simp at e0_4
  subst e0_4
  obtain ⟨k, hk⟩ := Pure.FnExactBestPoints l0_0 l0_1 l0_2 a0_3 a0_4 hC0_0.2.1 hC0_1.2.1 hC0_2.2.1 w0_3 w0_4
  clear hA0 hval0 hsz0 hsz
  refine (Hd.laws_FnExactBestPoints.calls k A0_0 c0_0 l0_0 A0_1 c0_1 l0_1 A0_2 c0_2 l0_2 a0_3 a0_4 true W hC0_0 hc0_0 hC0_1 hc0_1 hC0_2 hc0_2 hk).mono fun e W' ⟨he, bel0⟩ => ?_
  have bel : Below W.heap.size W W' := bel0
  subst he
  exact ⟨_, rfl, _, _, _, [], _, [], hW', trodAll_mk1 (shut_bool Tryz.underlying4 _), (trodAll_cons_mk (Below.trod laidOut (by kernel_rfl) (of_decide_eq_true (by kernel_rfl)) k0 bel lt0) trodAll_mk0), rfl, bel.frame _, fun h => by cases h⟩
theorem over : Rows.fnExactBestPointsRow.holds Tryz.pinned (OpenSpec.ofChange Rows.fnExactBestPointsSpec) :=
  OpenClaim.holds_of_wide 5 Tryz.f5 rfl rfl rfl rfl rfl rfl rfl ⟨rfl, rfl, rfl, rfl, rfl⟩ rfl rfl rfl rfl rfl (by kernel_rfl) Tryz.func5 (by kernel_rfl)
    (of_decide_eq_true (by kernel_rfl)) (by unfold Func.isWrapper; first | (rw [if_pos (by decide +kernel)]; kernel_rfl) | (rw [if_neg (by decide +kernel)]; exact ⟨rfl, rfl⟩))
    (fun os started H enc _ => lifted os started H enc)
theorem proved : Rows.FnExactBestPointsSaid := over
#print axioms proved
end Go.Proofs.YtjaojemmbeddfaaGreat.fnExactBestPoints
namespace Go.Proofs.YtjaojemmbeddfaaGreat
/-- The row, under a short name, for the claim. -/
theorem fnExactBestPoints_holds : Rows.FnExactBestPointsSaid := fnExactBestPoints.proved
end Go.Proofs.YtjaojemmbeddfaaGreat
