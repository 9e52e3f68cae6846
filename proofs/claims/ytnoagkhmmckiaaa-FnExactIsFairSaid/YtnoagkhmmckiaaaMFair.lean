/- impl.isFair, by hand: slices.Compact writes into the row that it is handed (a row of the call's own here). -/
import Derived.Test.YtnoagkhmmckiaaaMCompactInt
import Derived.Test.YtnoagkhmmckiaaaG1
namespace Go.Proofs.Ytnoagkhmmckiaaa.Hd
open Go.RowKit Go.Proofs.YtnoagkhmmckiaaaW.PrintWords Go.Proofs.YtnoagkhmmckiaaaW.PrintLast Go.Proofs.YtnoagkhmmckiaaaW.PrintMore
set_option linter.unusedVariables false
set_option linter.unusedSimpArgs false
def one (r : List Int) : Bool := (((Lib.compact r).length : Int) == 1)
def impl_isFair.f (k : Nat) (l0 : List Int) : Option Bool := (impl_sides.f k l0).map one
theorem LeO_map {α β : Type} {g : α → β} {a b : Option α} (h : LeO a b) : LeO (a.map g) (b.map g) := by
  intro r hr
  cases a with
  | none => simp at hr
  | some x => rw [h x rfl]; exact hr
theorem impl_isFair.mono : ∀ a0 k, LeO (impl_isFair.f k a0) (impl_isFair.f (k + 1) a0) := fun _ _ => LeO_map (impl_sides.mono _ _)
theorem impl_isFair.calls (k : Nat) (A0 : Option Addr) (c0 : Nat) (l0 : List Int) (r : Bool) (w : World) (hr0 : Kd.C (Kd.int .i64) w A0 l0.length l0) (hc0 : l0.length ≤ c0) (h : impl_isFair.f k l0 = some r) :
    Calls Try.prog 60 #[.slice A0 l0.length c0] w fun e w' => e = .returned (.bool r) ∧ Below w.heap.size w w' := by
  obtain ⟨s, hs, rfl⟩ := Option.map_eq_some_iff.1 h
  have hcs := impl_sides.calls k A0 c0 l0 s w hr0 hc0 hs
  clear h hs hr0
  obtain ⟨b, hb⟩ : ∃ b, one s = b := ⟨_, rfl⟩
  have hd : (((Lib.compact s).length : Int) == 1) = b := hb
  rw [hb]
  clear hb
  go_enter Try.func60, Try.ntmps60
  go_wp2_with (first | (go_at_call 58; refine hcs.mono ?_; rintro e w1 ⟨v, rfl, hR, hb1⟩; replace hR := Aside0.mk hR; replace hb1 := Aside0.mk hb1) | (go_at_call 84; refine (compact_own hR.out).mono ?_; rintro e w2 ⟨⟨a, c, rfl⟩, hb2⟩; replace hb2 := Aside0.mk hb2))
  go_ret
  exact ⟨by first | rfl | simp [hd] | rw [hd], hb1.out.trans hb2.out⟩
end Go.Proofs.Ytnoagkhmmckiaaa.Hd
