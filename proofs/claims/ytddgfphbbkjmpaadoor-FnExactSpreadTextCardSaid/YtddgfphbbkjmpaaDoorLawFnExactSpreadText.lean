-- Printed by hprint.py (this session's program): the row of the law laws_FnExactSpreadText. Lean checks it.
import Derived.Test.YtddgfphbbkjmpaaDoorCards
import Derived.Test.YtddgfphbbkjmpaaDoorTie
import Derived.Test.YtddgfphbbkjmpaaDoorMLaidWrap
import Derived.Lay
import Derived.LaidOnce
import Derived.LaidLaws
import Derived.SevenTiedAt
import Derived.PinnedBridge
import Derived.Test.YtddgfphbbkjmpaaDoorRows
import Derived.Test.YtddgfphbbkjmpaaDoorG3
import Derived.Test.YtddgfphbbkjmpaaDoorPureFnExactSpreadText
import Derived.Test.YtddgfphbbkjmpaaDoorPOpen
import Derived.WalkKit
import Derived.ProofKit
import Derived.OpenShut
import Derived.ShutString
import Derived.ChangeOld
import Derived.Below
import Derived.SizedLaws
namespace Go.Proofs.YtddgfphbbkjmpaaDoor.fnExactSpreadText
open Go.ChangeShapes Go.WideShapes Go.ChangeAt Go.RowKit Go.Proofs.YtddgfphbbkjmpaaDoor.Open Go.Proofs.YtddgfphbbkjmpaaDoor.Hd Go.Proofs.YtddgfphbbkjmpaaDoorW.PrintWords Go.Proofs.YtddgfphbbkjmpaaDoorW.PrintLast
open Go.ChangeMaps (open_string shut_string)
set_option linter.unusedVariables false
theorem own : ownKnob Tryd.prog.godebug = none := by kernel_rfl
theorem laidOut : laidOutB Tryd.prog = true := by kernel_rfl
set_option maxRecDepth 100000 in
theorem lifted (os : Os) (started : os.Started) (H : Type) (enc : TypeId × Value → H) :
    ReturnsInHanded {} Tryd.checked os 3 .any (fun w args => (Rows.fnExactSpreadTextSpec.pre enc Tryd.prog Tryd.f3 [] false w args ∧ laidMetH Tryd.prog Rows.fnExactSpreadTextRow.laid w) ∧ sizedMet enc Tryd.prog Tryd.f3 (OpenSpec.ofChange Rows.fnExactSpreadTextSpec) false w args) (Rows.fnExactSpreadTextSpec.post enc Tryd.prog Tryd.f3 false true false false) := by
  refine Hd.lift_laid_shaped (C := Tryd.checked) (X := fun w _ => laidMetH Tryd.prog Rows.fnExactSpreadTextRow.laid w) own started (by kernel_rfl) Tryd.func3
    (ChangeSpec.witness_shaped (enc := enc) (C := Tryd.checked) (os := os) (X := fun w _ => laidMetH Tryd.prog Rows.fnExactSpreadTextRow.laid w) false (World.laidAll Tryd.prog os Rows.fnExactSpreadTextRow.laid) #[.slice none 0 0] 8 (World.laidAll_os _ _ _)
      (World.shaped_of_ZipB (by kernel_rfl) (by kernel_rfl)) (by kernel_rfl) (by kernel_rfl) (by kernel_rfl)
      (by rw [MakeChecks.laidMetH_plain _ _ _ (by kernel_rfl)]; exact laidMet_laidAll _ (by kernel_rfl) (by kernel_rfl))) ?_
  intro W base args ds gs before hval0 hW hcnd hsz0 hsh _
  have hmx : ∃ m, W.cell? ⟨1, 0, none⟩ = some (.int .i64 m) := cell_of_shapedOpen_int (P := Tryd.prog) (t := 3) (zero := #[.int .i64 0]) hsh (of_decide_eq_true (by kernel_rfl)) (by kernel_rfl) rfl (by kernel_rfl) (by kernel_rfl) Tryd.underlying3
  have hsz : (DataW.weightsEach Tryd.prog (Tryd.f3.params.toList ++ Rows.fnExactSpreadTextSpec.plain.varTypes Tryd.prog) (ds ++ gs)).all (· ≤ reachBytes) = true := hsz0
  have hval : ∀ (j : Nat) t v, Tryd.f3.params[j]? = some t → args[j]? = some v → Value.okWide Tryd.prog W .any base t v := hval0
  have hW' := hW
  obtain ⟨p, q, hA0, hV, rfl, hfz, hnd⟩ := hW
  have hA : DataW.TrodAll enc Tryd.prog W 0 (fun _ => true) true Tryd.f3.params.toList args.toList ds p := hA0
  rw [Tryd.params3] at hA hval hsz
  obtain ⟨v0, vs0, d0, ds0, p0, q0, hargs, rfl, rfl, h0, r0⟩ := trodAll_cons hA
  obtain ⟨rfl, rfl, rfl⟩ := trodAll_nil r0
  obtain rfl : args = #[v0] := by cases args; simp_all
  obtain ⟨rfl, rfl⟩ := trodVars_none hV
  have k0 := h0
  have lt0 : ∀ x ∈ p0, x.block < W.heap.size := by obtain ⟨m, hm⟩ := k0; exact DataW.trod_lt m _ _ _ hm
  obtain ⟨A0, len0, c0, rfl⟩ := okWide_slice Tryd.underlying22 (hval 0 22 v0 rfl rfl)
  obtain ⟨l0, rfl, hc0, hC0⟩ := open_row (d := k41) (e := 41) (tells_slice Tryd.underlying22 (by kernel_rfl) (tells_iso (fun x : S_LPlay => (x.f0, x.f1)) (fun p => ⟨p.1, p.2⟩) (fun _ => rfl) (tells_pair Tryd.underlying41 (by rfl) (by kernel_rfl) (by kernel_rfl) (tells_iso (fun x : S_LTile => (x.f0, x.f1)) (fun p => ⟨p.1, p.2⟩) (fun _ => rfl) (tells_pair Tryd.underlying39 (by rfl) (by kernel_rfl) (by kernel_rfl) (tells_int Tryd.underlying3) (tells_int Tryd.underlying3))) (tells_int Tryd.underlying3)))) h0
  obtain ⟨k, hk⟩ := Pure.FnExactSpreadText l0 hC0.2.1
  clear hA0 hval0 hsz0 hsz
  (first | refine (Hd.laws_FnExactSpreadText.calls k A0 c0 l0 true W hC0 hc0 hmx hk).mono fun e W' ⟨he, bel0⟩ => ?_ | refine (Hd.laws_FnExactSpreadText.calls k A0 c0 l0 true W hC0 hc0 hk).mono fun e W' ⟨he, bel0⟩ => ?_)
  have bel : Below W.heap.size W W' := bel0
  subst he
  exact ⟨_, rfl, _, _, _, [], _, [], hW', trodAll_mk1 (shut_bool Tryd.underlying4 _), (trodAll_cons_mk (Below.trod laidOut (by kernel_rfl) (of_decide_eq_true (by kernel_rfl)) k0 bel lt0) trodAll_mk0), rfl, bel.frame _, fun h => by cases h⟩
theorem over : Rows.fnExactSpreadTextRow.holds Tryd.pinned (OpenSpec.ofChange Rows.fnExactSpreadTextSpec) :=
  OpenClaim.holds_of_wide 3 Tryd.f3 rfl rfl rfl rfl rfl rfl rfl ⟨rfl, rfl, rfl, rfl, rfl⟩ rfl rfl rfl rfl rfl (by kernel_rfl) Tryd.func3 (by kernel_rfl)
    (of_decide_eq_true (by kernel_rfl)) (by unfold Func.isWrapper; first | (rw [if_pos (by decide +kernel)]; kernel_rfl) | (rw [if_neg (by decide +kernel)]; exact ⟨rfl, rfl⟩))
    (fun os started H enc _ => lifted os started H enc)
theorem proved : Rows.FnExactSpreadTextCardSaid :=
  Claim7.holds_tied_plain_at .later [] [.data, .data, .data] true (true, "537c2e9e4a64d2f1dd93edbf17af614e3c64f62a38dcace6b41e0e352c586f47") false over (fun _ h => by cases h) (by kernel_rfl) (fun _ h => by cases h) fnExactSpreadText_row_tie rfl ⟨rfl, rfl⟩ (by kernel_rfl) rfl
    (fun f fn hf hfn => by
      obtain rfl : f = 3 := Option.some.inj ((show Tryd.prog.funcNamed "loop.example/g01216/laws.FnExactSpreadText" = some 3 by kernel_rfl).symm.trans hf) |>.symm
      obtain rfl : fn = Tryd.f3 := (Option.some.inj (Tryd.func3.symm.trans hfn)).symm
      exact ⟨by kernel_rfl, fun j t ht => by
        rw [Tryd.params3] at ht
        have hm : t ∈ [22] := by simpa using Array.mem_of_getElem? ht
        have hall : ([22].all fun u => !Tryd.prog.wantsStandIn u) = true := by kernel_rfl
        exact (show Tryd.prog.wantsStandIn t = false by simpa using List.all_eq_true.1 hall t hm)⟩)
    (by kernel_rfl)
#print axioms proved
end Go.Proofs.YtddgfphbbkjmpaaDoor.fnExactSpreadText
namespace Go.Proofs.YtddgfphbbkjmpaaDoor
/-- The row, under a short name, for the claim. -/
theorem fnExactSpreadText_holds : Rows.FnExactSpreadTextCardSaid := fnExactSpreadText.proved
end Go.Proofs.YtddgfphbbkjmpaaDoor
