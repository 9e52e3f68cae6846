/- impl.isMagic, by hand (slices.Compact writes into rows of the call's own). -/
import Derived.Test.YtdegenmjpjilmaaMCompactInt
import Derived.Test.YtdegenmjpjilmaaG1
import Derived.Test.YtdegenmjpjilmaaG1
namespace Go.Proofs.Ytdegenmjpjilmaa.Hd
open Go.RowKit Go.Proofs.YtdegenmjpjilmaaW.PrintWords Go.Proofs.YtdegenmjpjilmaaW.PrintLast Go.Proofs.YtdegenmjpjilmaaW.PrintMore
set_option linter.unusedVariables false
set_option linter.unusedSimpArgs false
def impl_isMagic.f (k : Nat) (l0 : List (List Int)) : Option Bool := (impl_rowSums.f k l0).bind fun a => if one a = true then (impl_columnSums.f k l0).map one else some false
theorem impl_isMagic.mono : ∀ a0 k, LeO (impl_isMagic.f k a0) (impl_isMagic.f (k + 1) a0) := by
  intro a0 k
  unfold impl_isMagic.f
  exact LeO.bind (impl_rowSums.mono _ _) (fun _ => LeO.ite (LeO_map (impl_columnSums.mono _ _)) (LeO.refl _))
set_option maxHeartbeats 2000000 in
theorem impl_isMagic.calls (k : Nat) (A0 : Option Addr) (c0 : Nat) (l0 : List (List Int)) (r : Bool) (w : World) (hr0 : Kd.C (Kd.slice 3 (Kd.int .i64)) w A0 l0.length l0) (hc0 : l0.length ≤ c0) (h : impl_isMagic.f k l0 = some r) :
    Calls Try.prog 51 #[.slice A0 l0.length c0] w fun e w' => e = .returned (.bool r) ∧ Below w.heap.size w w' := by
  have HR : Aside0 (∀ W, Below w.heap.size w W → Kd.C (Kd.slice 3 (Kd.int .i64)) W A0 l0.length l0) := ⟨fun W hb => Kd.C_below hr0 hb⟩
  obtain ⟨s, hs, h2⟩ := Option.bind_eq_some_iff.1 h
  have hcs := impl_rowSums.calls k A0 c0 l0 s w hr0 hc0 hs
  clear h hs hr0
  obtain ⟨b, hb⟩ : ∃ b, one s = b := ⟨_, rfl⟩
  rw [hb] at h2
  have hd : (((Lib.compact s).length : Int) == 1) = b := hb
  clear hb
  cases b with
  | false =>
    rw [if_neg (by simp)] at h2
    obtain rfl := Option.some.inj h2
    clear h2
    go_enter Try.func51, Try.ntmps51
    go_wp2_with (first | (go_at_call 83; refine hcs.mono ?_; rintro e w1 ⟨v, rfl, hR, hb1⟩; replace hR := Aside0.mk hR; replace hb1 := Aside0.mk hb1) | (go_at_call 63; refine (compact_own hR.out).mono ?_; rintro e w2 ⟨⟨a, c, rfl⟩, hb2⟩; replace hb2 := Aside0.mk hb2))
    all_goals first | (go_ret; exact ⟨by first | rfl | simp_all, hb1.out.trans hb2.out⟩) | (exfalso; simp_all; done)
  | true =>
    rw [if_pos rfl] at h2
    obtain ⟨s2, hs2, rfl⟩ := Option.map_eq_some_iff.1 h2
    clear h2
    replace hs2 := Aside0.mk hs2
    obtain ⟨b, hb⟩ : ∃ b, one s2 = b := ⟨_, rfl⟩
    have hd2 : (((Lib.compact s2).length : Int) == 1) = b := hb
    rw [hb]
    clear hb
    go_enter Try.func51, Try.ntmps51
    go_wp2_with (first | (go_at_call 83; refine hcs.mono ?_; rintro e w1 ⟨v, rfl, hR, hb1⟩; replace hR := Aside0.mk hR; replace hb1 := Aside0.mk hb1) | (go_at_call 63; refine (compact_own hR.out).mono ?_; rintro e w2 ⟨⟨a, c, rfl⟩, hb2⟩; replace hb2 := Aside0.mk (hb1.out.trans hb2); clear hR) | (go_at_call 84; refine (impl_columnSums.calls k A0 c0 l0 s2 _ (HR.out _ hb2.out) hc0 hs2.out).mono ?_; rintro e w3 ⟨v3, rfl, hR3, hb3⟩; replace hR3 := Aside0.mk hR3; replace hb3 := Aside0.mk (hb2.out.trans (hb3.mono hb2.out.size))) | (go_at_call 63; refine (compact_own hR3.out).mono ?_; rintro e w4 ⟨⟨a4, c4, rfl⟩, hb4⟩; replace hb4 := Aside0.mk (hb3.out.trans (hb4.mono hb2.out.size))))
    all_goals first | (go_ret; exact ⟨by first | rfl | simp_all, hb4.out⟩) | (exfalso; simp_all; done)
end Go.Proofs.Ytdegenmjpjilmaa.Hd
