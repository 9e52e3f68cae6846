/- slices.IndexFunc and slices.ContainsFunc over tiles, by hand, for whatever predicate. -/
import Derived.Test.YtbkaedmabdgdhaaG0
import Derived.Shelf.Abstract
namespace Go.Proofs.Ytbkaedmabdgdhaa.Hd
open Go.RowKit Go.Proofs.YtbkaedmabdgdhaaW.PrintWords Go.Proofs.YtbkaedmabdgdhaaW.PrintLast Go.Proofs.YtbkaedmabdgdhaaW.PrintMore
set_option linter.unusedVariables false
set_option linter.unusedSimpArgs false
def TGives (g : Nat) (lb : Array Value) (p : S_Tile → Bool) (w : World) : Prop :=
  ∀ (W : World) (x : S_Tile), Below w.heap.size w W → Calls Try.prog g (#[.agg #[.int .i64 x.f0, .int .i64 x.f1]] ++ lb) W fun e w' => e = .returned (.bool (p x)) ∧ Below W.heap.size W w'
def IdxEndT (p : S_Tile → Bool) (l : List S_Tile) (e : Ending) : Prop := ∃ j : Int, decide (0 ≤ j) = l.any p ∧ e = .returned (.int .i64 j)
theorem anyT_hit {p : S_Tile → Bool} {l : List S_Tile} {k : Nat} {y : S_Tile} (h : k < l.length) (hy : rd_Tile l k = y) (hq : p y = true) : IdxEndT p l (.returned (.int .i64 (k : Int))) := by
  refine ⟨k, ?_, rfl⟩
  have : l.any p = true := by
    rw [List.any_eq_true]
    exact ⟨y, by rw [← hy]; simp [rd_Tile, h], hq⟩
  rw [this]; simp
theorem anyT_miss {p : S_Tile → Bool} {l : List S_Tile} {k : Nat} (h : ¬ k < l.length) (hq : (l.take k).any p = false) : IdxEndT p l (.returned (.int .i64 (-1))) := by
  rw [List.take_of_length_le (by omega)] at hq
  exact ⟨-1, by rw [hq]; rfl, rfl⟩
theorem take_anyT {p : S_Tile → Bool} {l : List S_Tile} {k : Nat} {y : S_Tile} (h : k < l.length) (hy : rd_Tile l k = y) (hq : p y = false) (ha : (l.take k).any p = false) : (l.take (k + 1)).any p = false := by
  rw [List.take_succ_eq_append_getElem h, List.any_append, ha]
  have : l[k] = y := by rw [← hy]; simp [rd_Tile, h]
  simp [this, hq]

set_option maxHeartbeats 2000000 in
theorem idxFuncT (g : Nat) (lb : Array Value) (p : S_Tile → Bool) (eg : ∀ args w, (callFunc g args).run Try.prog w = .ok (.enter g args) w) (A0 : Option Addr) (c0 : Nat) (l0 : List S_Tile) (w : World) (hr : Kd.C k50 w A0 l0.length l0) (hp : TGives g lb p w) :
    Calls Try.prog 103 #[.slice A0 l0.length c0, .func (.func g) #[] lb] w fun e w' => IdxEndT p l0 e ∧ Below w.heap.size w w' := by
  have HR := Aside0.mk hr
  have HP := Aside0.mk hp
  have hm := hr.2.1
  clear hr hp
  go_enter Try.func103, Try.ntmps103
  go_wp2
  go_loopg [5, 8] l0.length (fun gg _ s8 wr => ∃ kk : Nat, kk ≤ l0.length ∧ l0.length - kk ≤ gg ∧ s8 = .int .i64 kk ∧ Aside0 (Below w.heap.size w wr) ∧ Aside0 ((l0.take kk).any p = false))
  case atStart => exact ⟨0, Nat.zero_le _, by omega, rfl, ⟨Below.refl _ _⟩, ⟨by simp⟩⟩
  case round =>
    obtain ⟨kk, hkk, hg, rfl, HB, HA⟩ := hrel
    by_cases hlt : kk < l0.length
    · obtain ⟨ad, rfl, hc0, hc1⟩ := at_T50 (Kd.C_below HR.out HB.out) (kk : Int) (by omega) (by omega)
      have hltz : (kk : Int) < (l0.length : Int) := by omega
      simp only [Int.toNat_natCast] at hc0 hc1
      obtain ⟨y, hy⟩ : ∃ y, rd_Tile l0 kk = y := ⟨_, rfl⟩
      rw [hy] at hc0 hc1
      have HY := Aside0.mk hy
      clear hy
      have hcall := HP.out _ y HB.out
      obtain ⟨y0, y1⟩ := y
      simp only [] at hc0 hc1 hcall
      cases hq : p ⟨y0, y1⟩ with
      | true =>
        rw [hq] at hcall
        go_wp2_with (go_at_fn g; refine hcall.mono ?_; rintro e w' ⟨rfl, hb'⟩)
        go_ret
        exact ⟨anyT_hit hlt HY.out hq, HB.out.trans (hb'.mono HB.out.size)⟩
      | false =>
        rw [hq] at hcall
        go_wp2_with (go_at_fn g; refine hcall.mono ?_; rintro e w' ⟨rfl, hb'⟩; replace hb' := Aside0.mk hb')
        go_roundg (l0.length - (kk + 1))
        case measure => omega
        case rel => exact ⟨kk + 1, by omega, by omega, by go_num, ⟨HB.out.trans (hb'.out.mono HB.out.size)⟩, ⟨take_anyT hlt HY.out hq HA.out⟩⟩
    · have hltz : ¬ (kk : Int) < (l0.length : Int) := by omega
      go_wp2
      go_ret
      exact ⟨anyT_miss hlt HA.out, HB.out⟩

theorem contFuncT (g : Nat) (lb : Array Value) (p : S_Tile → Bool) (eg : ∀ args w, (callFunc g args).run Try.prog w = .ok (.enter g args) w) (A0 : Option Addr) (c0 : Nat) (l0 : List S_Tile) (w : World) (hr : Kd.C k50 w A0 l0.length l0) (hp : TGives g lb p w) :
    Calls Try.prog 71 #[.slice A0 l0.length c0, .func (.func g) #[] lb] w fun e w' => e = .returned (.bool (l0.any p)) ∧ Below w.heap.size w w' := by
  have hi := idxFuncT g lb p eg A0 c0 l0 w hr hp
  clear hr hp
  go_enter Try.func71, Try.ntmps71
  go_wp2_with (go_at_call 103; refine hi.mono ?_; rintro e w' ⟨⟨j, hj, rfl⟩, hb⟩; replace hj := Aside0.mk hj)
  rw [hj.out]
  go_ret
  exact ⟨rfl, hb⟩
end Go.Proofs.Ytbkaedmabdgdhaa.Hd
