/- impl.IsHand, by hand (it hands a function literal to slices.ContainsFunc). -/
import Derived.Test.YtokkiiepddhkiaaGreatDoorG1
import Derived.Test.YtokkiiepddhkiaaGreatDoorG0
import Derived.Shelf.Abstract
namespace Go.Proofs.YtokkiiepddhkiaaGreatDoor.Hd
open Go.RowKit Go.Proofs.YtokkiiepddhkiaaGreatDoorW.PrintWords Go.Proofs.YtokkiiepddhkiaaGreatDoorW.PrintLast Go.Proofs.YtokkiiepddhkiaaGreatDoorW.PrintMore
set_option linter.unusedVariables false
set_option linter.unusedSimpArgs false
def TGives (g : Nat) (lb : Array Value) (p : S_Tile → Bool) (w : World) : Prop :=
  ∀ (W : World) (x : S_Tile), Below w.heap.size w W → Calls Tryz.prog g (#[.agg #[.int .i64 x.f0, .int .i64 x.f1]] ++ lb) W fun e w' => e = .returned (.bool (p x)) ∧ Below W.heap.size W w'
def IdxEndT (p : S_Tile → Bool) (l : List S_Tile) (e : Ending) : Prop := ∃ j : Int, decide (0 ≤ j) = l.any p ∧ e = .returned (.int .i64 j)
theorem anyT_hit {p : S_Tile → Bool} {l : List S_Tile} {k : Nat} {y : S_Tile} (h : k < l.length) (hy : rd_Tile l k = y) (hq : p y = true) : IdxEndT p l (.returned (.int .i64 (k : Int))) := by
  refine ⟨k, ?_, rfl⟩
  have : l.any p = true := by
    rw [List.any_eq_true]
    exact ⟨y, by rw [← hy]; simp [rd_Tile, h], hq⟩
  rw [this]; simp
theorem anyT_miss {p : S_Tile → Bool} {l : List S_Tile} {k : Nat} (h : ¬ k < l.length) (hq : (l.take k).any p = false) : IdxEndT p l (.returned (.int .i64 (-1))) := by
  rw [List.take_of_length_le (by omega)] at hq
  exact ⟨-1, by rw [hq]; rfl, rfl⟩
theorem take_anyT {p : S_Tile → Bool} {l : List S_Tile} {k : Nat} {y : S_Tile} (h : k < l.length) (hy : rd_Tile l k = y) (hq : p y = false) (ha : (l.take k).any p = false) : (l.take (k + 1)).any p = false := by
  rw [List.take_succ_eq_append_getElem h, List.any_append, ha]
  have : l[k] = y := by rw [← hy]; simp [rd_Tile, h]
  simp [this, hq]

set_option maxHeartbeats 2000000 in
theorem idxFuncT (g : Nat) (lb : Array Value) (p : S_Tile → Bool) (eg : ∀ args w, (callFunc g args).run Tryz.prog w = .ok (.enter g args) w) (A0 : Option Addr) (c0 : Nat) (l0 : List S_Tile) (w : World) (hr : Kd.C k55 w A0 l0.length l0) (hp : TGives g lb p w) :
    Calls Tryz.prog 132 #[.slice A0 l0.length c0, .func (.func g) #[] lb] w fun e w' => IdxEndT p l0 e ∧ Below w.heap.size w w' := by
  have HR := Aside0.mk hr
  have HP := Aside0.mk hp
  have hm := hr.2.1
  clear hr hp
  go_enter Tryz.func132, Tryz.ntmps132
  go_wp2
  go_loopg [5, 8] l0.length (fun gg _ s8 wr => ∃ kk : Nat, kk ≤ l0.length ∧ l0.length - kk ≤ gg ∧ s8 = .int .i64 kk ∧ Aside0 (Below w.heap.size w wr) ∧ Aside0 ((l0.take kk).any p = false))
  case atStart => exact ⟨0, Nat.zero_le _, by omega, rfl, ⟨Below.refl _ _⟩, ⟨by simp⟩⟩
  case round =>
    obtain ⟨kk, hkk, hg, rfl, HB, HA⟩ := hrel
    by_cases hlt : kk < l0.length
    · obtain ⟨ad, rfl, hc0, hc1⟩ := at_T55 (Kd.C_below HR.out HB.out) (kk : Int) (by omega) (by omega)
      have hltz : (kk : Int) < (l0.length : Int) := by omega
      simp only [Int.toNat_natCast] at hc0 hc1
      obtain ⟨y, hy⟩ : ∃ y, rd_Tile l0 kk = y := ⟨_, rfl⟩
      rw [hy] at hc0 hc1
      have HY := Aside0.mk hy
      clear hy
      have hcall := HP.out _ y HB.out
      obtain ⟨y0, y1⟩ := y
      simp only [] at hc0 hc1 hcall
      cases hq : p ⟨y0, y1⟩ with
      | true =>
        rw [hq] at hcall
        go_wp2_with (go_at_fn g; refine hcall.mono ?_; rintro e w' ⟨rfl, hb'⟩)
        go_ret
        exact ⟨anyT_hit hlt HY.out hq, HB.out.trans (hb'.mono HB.out.size)⟩
      | false =>
        rw [hq] at hcall
        go_wp2_with (go_at_fn g; refine hcall.mono ?_; rintro e w' ⟨rfl, hb'⟩; replace hb' := Aside0.mk hb')
        go_roundg (l0.length - (kk + 1))
        case measure => omega
        case rel => exact ⟨kk + 1, by omega, by omega, by go_num, ⟨HB.out.trans (hb'.out.mono HB.out.size)⟩, ⟨take_anyT hlt HY.out hq HA.out⟩⟩
    · have hltz : ¬ (kk : Int) < (l0.length : Int) := by omega
      go_wp2
      go_ret
      exact ⟨anyT_miss hlt HA.out, HB.out⟩

theorem contFuncT (g : Nat) (lb : Array Value) (p : S_Tile → Bool) (eg : ∀ args w, (callFunc g args).run Tryz.prog w = .ok (.enter g args) w) (A0 : Option Addr) (c0 : Nat) (l0 : List S_Tile) (w : World) (hr : Kd.C k55 w A0 l0.length l0) (hp : TGives g lb p w) :
    Calls Tryz.prog 104 #[.slice A0 l0.length c0, .func (.func g) #[] lb] w fun e w' => e = .returned (.bool (l0.any p)) ∧ Below w.heap.size w w' := by
  have hi := idxFuncT g lb p eg A0 c0 l0 w hr hp
  clear hr hp
  go_enter Tryz.func104, Tryz.ntmps104
  go_wp2_with (go_at_call 132; refine hi.mono ?_; rintro e w' ⟨⟨j, hj, rfl⟩, hb⟩; replace hj := Aside0.mk hj)
  rw [hj.out]
  go_ret
  exact ⟨rfl, hb⟩
end Go.Proofs.YtokkiiepddhkiaaGreatDoor.Hd
namespace Go.Proofs.YtokkiiepddhkiaaGreatDoor.Hd
open Go.RowKit Go.Proofs.YtokkiiepddhkiaaGreatDoorW.PrintWords Go.Proofs.YtokkiiepddhkiaaGreatDoorW.PrintLast Go.Proofs.YtokkiiepddhkiaaGreatDoorW.PrintMore
set_option linter.unusedVariables false
set_option linter.unusedSimpArgs false
def tileB (t : S_Tile) : Bool := decide (0 ≤ t.f0) && decide (t.f0 ≤ t.f1) && decide (t.f1 ≤ 9)
theorem clo_hand (w0 : World) : TGives 105 #[] (fun t => !tileB t) w0 := by
  intro W x _
  obtain ⟨x0, x1⟩ := x
  simp only []
  have e0 : (!tileB ⟨x0, x1⟩) = !(decide (0 ≤ x0) && decide (x0 ≤ x1) && decide (x1 ≤ 9)) := rfl
  rw [e0]
  clear e0
  by_cases c1 : 0 ≤ x0
  · have d1 : decide (0 ≤ x0) = true := decide_eq_true c1
    by_cases c2 : x0 ≤ x1
    · have d2 : decide (x0 ≤ x1) = true := decide_eq_true c2
      rw [d1, d2]
      go_enter Tryz.func105, Tryz.ntmps105
      go_wp2
      go_ret
      exact ⟨by simp, ((Below.refl _ _).alloc (Nat.le_refl _) _).alloc (by simp) _⟩
    · have d2 : decide (x0 ≤ x1) = false := decide_eq_false c2
      rw [d1, d2]
      go_enter Tryz.func105, Tryz.ntmps105
      go_wp2
      go_ret
      exact ⟨by simp, ((Below.refl _ _).alloc (Nat.le_refl _) _).alloc (by simp) _⟩
  · have d1 : decide (0 ≤ x0) = false := decide_eq_false c1
    rw [d1]
    go_enter Tryz.func105, Tryz.ntmps105
    go_wp2
    go_ret
    exact ⟨by simp, ((Below.refl _ _).alloc (Nat.le_refl _) _).alloc (by simp) _⟩
def impl_IsHand.f (k : Nat) (l0 : List (S_Tile)) : Option Bool := if (l0.length : Int) ≤ 55 then (if l0.all tileB = true then impl_areDifferent_impl_Tile.f k l0 else some false) else some false
set_option maxHeartbeats 1000000 in
theorem impl_IsHand.calls (k : Nat) (A0 : Option Addr) (c0 : Nat) (l0 : List (S_Tile)) (r : Bool) (w : World) (hr0 : Kd.C k55 w A0 l0.length l0) (hc0 : l0.length ≤ c0) (h : impl_IsHand.f k l0 = some r) :
    Calls Tryz.prog 88 #[.slice A0 l0.length c0] w fun e w' => e = .returned (.bool r) ∧ Below w.heap.size w w' := by
  unfold impl_IsHand.f at h
  have hcf := contFuncT 105 #[] (fun t => !tileB t) (enters_of Tryz.func105 (by kernel_rfl) rfl) A0 c0 l0 w hr0 (clo_hand w)
  have HR : Aside0 (∀ W, Below w.heap.size w W → Kd.C k55 W A0 l0.length l0) := ⟨fun W hb => Kd.C_below hr0 hb⟩
  clear hr0
  by_cases h1 : (l0.length : Int) ≤ 55
  · rw [if_pos h1] at h
    by_cases h2 : l0.all tileB = true
    · rw [if_pos h2] at h
      have e2 : (l0.any fun t => !tileB t) = false := by rw [← List.not_all_eq_any_not, h2]; rfl
      rw [e2] at hcf
      have H := Aside0.mk h
      clear h h2 e2
      go_enter Tryz.func88, Tryz.ntmps88
      go_wp2_with (first | (go_at_call 104; refine hcf.mono ?_; rintro e w1 ⟨rfl, hb⟩; replace hb := Aside0.mk hb) | (go_at_call 107; refine (impl_areDifferent_impl_Tile.calls k A0 c0 l0 r _ (HR.out _ hb.out) hc0 H.out).mono ?_; rintro e w2 ⟨rfl, hb2⟩; replace hb2 := Aside0.mk hb2))
      go_ret
      exact ⟨by first | rfl | simp, hb.out.trans (hb2.out.mono hb.out.size)⟩
    · rw [if_neg h2] at h
      have e2 : (l0.any fun t => !tileB t) = true := by rw [← List.not_all_eq_any_not, Bool.eq_false_iff.2 h2]; rfl
      rw [e2] at hcf
      obtain rfl := Option.some.inj h
      clear h h2 e2
      go_enter Tryz.func88, Tryz.ntmps88
      go_wp2_with (go_at_call 104; refine hcf.mono ?_; rintro e w1 ⟨rfl, hb⟩; replace hb := Aside0.mk hb)
      go_ret
      exact ⟨by first | rfl | simp, hb.out⟩
  · rw [if_neg h1] at h
    obtain rfl := Option.some.inj h
    clear h hcf
    go_enter Tryz.func88, Tryz.ntmps88
    go_wp2
    go_ret
    exact ⟨by first | rfl | simp, Below.refl _ _⟩
end Go.Proofs.YtokkiiepddhkiaaGreatDoor.Hd
