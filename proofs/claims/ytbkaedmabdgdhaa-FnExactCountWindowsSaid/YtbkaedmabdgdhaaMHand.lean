/- impl.IsHand, by hand (it hands a function literal to slices.ContainsFunc). -/
import Derived.Test.YtbkaedmabdgdhaaMIdxTile
import Derived.Test.YtbkaedmabdgdhaaG2
namespace Go.Proofs.Ytbkaedmabdgdhaa.Hd
open Go.RowKit Go.Proofs.YtbkaedmabdgdhaaW.PrintWords Go.Proofs.YtbkaedmabdgdhaaW.PrintLast Go.Proofs.YtbkaedmabdgdhaaW.PrintMore
set_option linter.unusedVariables false
set_option linter.unusedSimpArgs false
def tileB (t : S_Tile) : Bool := decide (0 ≤ t.f0) && decide (t.f0 ≤ t.f1) && decide (t.f1 ≤ 9)
theorem clo_hand (w0 : World) : TGives 72 #[] (fun t => !tileB t) w0 := by
  intro W x _
  obtain ⟨x0, x1⟩ := x
  simp only []
  have e0 : (!tileB ⟨x0, x1⟩) = !(decide (0 ≤ x0) && decide (x0 ≤ x1) && decide (x1 ≤ 9)) := rfl
  rw [e0]
  clear e0
  by_cases c1 : 0 ≤ x0
  · have d1 : decide (0 ≤ x0) = true := decide_eq_true c1
    by_cases c2 : x0 ≤ x1
    · have d2 : decide (x0 ≤ x1) = true := decide_eq_true c2
      rw [d1, d2]
      go_enter Try.func72, Try.ntmps72
      go_wp2
      go_ret
      exact ⟨by simp, ((Below.refl _ _).alloc (Nat.le_refl _) _).alloc (by simp) _⟩
    · have d2 : decide (x0 ≤ x1) = false := decide_eq_false c2
      rw [d1, d2]
      go_enter Try.func72, Try.ntmps72
      go_wp2
      go_ret
      exact ⟨by simp, ((Below.refl _ _).alloc (Nat.le_refl _) _).alloc (by simp) _⟩
  · have d1 : decide (0 ≤ x0) = false := decide_eq_false c1
    rw [d1]
    go_enter Try.func72, Try.ntmps72
    go_wp2
    go_ret
    exact ⟨by simp, ((Below.refl _ _).alloc (Nat.le_refl _) _).alloc (by simp) _⟩
def impl_IsHand.f (k : Nat) (l0 : List (S_Tile)) : Option Bool := if (l0.length : Int) ≤ 55 then (if l0.all tileB = true then impl_areDifferent_impl_Tile.f k l0 else some false) else some false
set_option maxHeartbeats 1000000 in
theorem impl_IsHand.calls (k : Nat) (A0 : Option Addr) (c0 : Nat) (l0 : List (S_Tile)) (r : Bool) (w : World) (hr0 : Kd.C k50 w A0 l0.length l0) (hc0 : l0.length ≤ c0) (h : impl_IsHand.f k l0 = some r) :
    Calls Try.prog 44 #[.slice A0 l0.length c0] w fun e w' => e = .returned (.bool r) ∧ Below w.heap.size w w' := by
  unfold impl_IsHand.f at h
  have hcf := contFuncT 72 #[] (fun t => !tileB t) (enters_of Try.func72 (by kernel_rfl) rfl) A0 c0 l0 w hr0 (clo_hand w)
  have HR : Aside0 (∀ W, Below w.heap.size w W → Kd.C k50 W A0 l0.length l0) := ⟨fun W hb => Kd.C_below hr0 hb⟩
  clear hr0
  by_cases h1 : (l0.length : Int) ≤ 55
  · rw [if_pos h1] at h
    by_cases h2 : l0.all tileB = true
    · rw [if_pos h2] at h
      have e2 : (l0.any fun t => !tileB t) = false := by rw [← List.not_all_eq_any_not, h2]; rfl
      rw [e2] at hcf
      have H := Aside0.mk h
      clear h h2 e2
      go_enter Try.func44, Try.ntmps44
      go_wp2_with (first | (go_at_call 71; refine hcf.mono ?_; rintro e w1 ⟨rfl, hb⟩; replace hb := Aside0.mk hb) | (go_at_call 74; refine (impl_areDifferent_impl_Tile.calls k A0 c0 l0 r _ (HR.out _ hb.out) hc0 H.out).mono ?_; rintro e w2 ⟨rfl, hb2⟩; replace hb2 := Aside0.mk hb2))
      go_ret
      exact ⟨by first | rfl | simp, hb.out.trans (hb2.out.mono hb.out.size)⟩
    · rw [if_neg h2] at h
      have e2 : (l0.any fun t => !tileB t) = true := by rw [← List.not_all_eq_any_not, Bool.eq_false_iff.2 h2]; rfl
      rw [e2] at hcf
      obtain rfl := Option.some.inj h
      clear h h2 e2
      go_enter Try.func44, Try.ntmps44
      go_wp2_with (go_at_call 71; refine hcf.mono ?_; rintro e w1 ⟨rfl, hb⟩; replace hb := Aside0.mk hb)
      go_ret
      exact ⟨by first | rfl | simp, hb.out⟩
  · rw [if_neg h1] at h
    obtain rfl := Option.some.inj h
    clear h hcf
    go_enter Try.func44, Try.ntmps44
    go_wp2
    go_ret
    exact ⟨by first | rfl | simp, Below.refl _ _⟩
end Go.Proofs.Ytbkaedmabdgdhaa.Hd
