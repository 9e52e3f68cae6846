/- slices.IndexFunc and slices.ContainsFunc over rows of ints, by hand, for whatever predicate. -/
import Derived.Test.YtipkmbgebpeeoaaG0
import Derived.Shelf.Abstract
namespace Go.Proofs.Ytipkmbgebpeeoaa.Hd
open Go.RowKit Go.Proofs.YtipkmbgebpeeoaaW.PrintWords Go.Proofs.YtipkmbgebpeeoaaW.PrintLast Go.Proofs.YtipkmbgebpeeoaaW.PrintMore
set_option linter.unusedVariables false
set_option linter.unusedSimpArgs false
def RGives (g : Nat) (lb : Array Value) (p : List Int → Bool) (w : World) : Prop :=
  ∀ (W : World) (A : Option Addr) (c : Nat) (x : List Int), Below w.heap.size w W → (Kd.int .i64).C W A x.length x → x.length ≤ c → Calls Try.prog g (#[.slice A x.length c] ++ lb) W fun e w' => e = .returned (.bool (p x)) ∧ Below W.heap.size W w'
def IdxEndR (p : List Int → Bool) (l : List (List Int)) (e : Ending) : Prop := ∃ j : Int, decide (0 ≤ j) = l.any p ∧ e = .returned (.int .i64 j)
theorem anyR_hit {p : List Int → Bool} {l : List (List Int)} {k : Nat} {y : List Int} (h : k < l.length) (hy : rd_i64s l k = y) (hq : p y = true) : IdxEndR p l (.returned (.int .i64 (k : Int))) := by
  refine ⟨k, ?_, rfl⟩
  have : l.any p = true := by
    rw [List.any_eq_true]
    exact ⟨y, by rw [← hy]; simp [rd_i64s, h], hq⟩
  rw [this]; simp
theorem anyR_miss {p : List Int → Bool} {l : List (List Int)} {k : Nat} (h : ¬ k < l.length) (hq : (l.take k).any p = false) : IdxEndR p l (.returned (.int .i64 (-1))) := by
  rw [List.take_of_length_le (by omega)] at hq
  exact ⟨-1, by rw [hq]; rfl, rfl⟩
theorem take_anyR {p : List Int → Bool} {l : List (List Int)} {k : Nat} {y : List Int} (h : k < l.length) (hy : rd_i64s l k = y) (hq : p y = false) (ha : (l.take k).any p = false) : (l.take (k + 1)).any p = false := by
  rw [List.take_succ_eq_append_getElem h, List.any_append, ha]
  have : l[k] = y := by rw [← hy]; simp [rd_i64s, h]
  simp [this, hq]

set_option maxHeartbeats 2000000 in
theorem idxFuncR (g : Nat) (lb : Array Value) (p : List Int → Bool) (eg : ∀ args w, (callFunc g args).run Try.prog w = .ok (.enter g args) w) (A0 : Option Addr) (c0 : Nat) (l0 : List (List Int)) (w : World) (hr : Kd.C (Kd.slice 3 (Kd.int .i64)) w A0 l0.length l0) (hp : RGives g lb p w) :
    Calls Try.prog 36 #[.slice A0 l0.length c0, .func (.func g) #[] lb] w fun e w' => IdxEndR p l0 e ∧ Below w.heap.size w w' := by
  have HR := Aside0.mk hr
  have HP := Aside0.mk hp
  have hm := hr.2.1
  clear hr hp
  go_enter Try.func36, Try.ntmps36
  go_wp2
  go_loopg [5, 8] l0.length (fun gg _ s8 wr => ∃ kk : Nat, kk ≤ l0.length ∧ l0.length - kk ≤ gg ∧ s8 = .int .i64 kk ∧ Aside0 (Below w.heap.size w wr) ∧ Aside0 ((l0.take kk).any p = false))
  case atStart => exact ⟨0, Nat.zero_le _, by omega, rfl, ⟨Below.refl _ _⟩, ⟨by simp⟩⟩
  case round =>
    obtain ⟨kk, hkk, hg, rfl, HB, HA⟩ := hrel
    by_cases hlt : kk < l0.length
    · obtain ⟨ad, A', c', rfl, hc0, hcl, hci⟩ := at_i64s (Kd.C_below HR.out HB.out) (kk : Int) (by omega) (by omega)
      have hltz : (kk : Int) < (l0.length : Int) := by omega
      simp only [Int.toNat_natCast] at hc0
      obtain ⟨y, hy⟩ : ∃ y, rd_i64s l0 kk = y := ⟨_, rfl⟩
      rw [hy] at hc0 hcl hci
      have HY := Aside0.mk hy
      clear hy
      have hcall := HP.out _ A' c' y HB.out hci hcl
      clear hci hcl
      cases hq : p y with
      | true =>
        rw [hq] at hcall
        go_wp2_with (go_at_fn g; refine hcall.mono ?_; rintro e w' ⟨rfl, hb'⟩)
        go_ret
        exact ⟨anyR_hit hlt HY.out hq, HB.out.trans (hb'.mono HB.out.size)⟩
      | false =>
        rw [hq] at hcall
        go_wp2_with (go_at_fn g; refine hcall.mono ?_; rintro e w' ⟨rfl, hb'⟩; replace hb' := Aside0.mk hb')
        go_roundg (l0.length - (kk + 1))
        case measure => omega
        case rel => exact ⟨kk + 1, by omega, by omega, by go_num, ⟨HB.out.trans (hb'.out.mono HB.out.size)⟩, ⟨take_anyR hlt HY.out hq HA.out⟩⟩
    · have hltz : ¬ (kk : Int) < (l0.length : Int) := by omega
      go_wp2
      go_ret
      exact ⟨anyR_miss hlt HA.out, HB.out⟩

theorem contFuncR (g : Nat) (lb : Array Value) (p : List Int → Bool) (eg : ∀ args w, (callFunc g args).run Try.prog w = .ok (.enter g args) w) (A0 : Option Addr) (c0 : Nat) (l0 : List (List Int)) (w : World) (hr : Kd.C (Kd.slice 3 (Kd.int .i64)) w A0 l0.length l0) (hp : RGives g lb p w) :
    Calls Try.prog 26 #[.slice A0 l0.length c0, .func (.func g) #[] lb] w fun e w' => e = .returned (.bool (l0.any p)) ∧ Below w.heap.size w w' := by
  have hi := idxFuncR g lb p eg A0 c0 l0 w hr hp
  clear hr hp
  go_enter Try.func26, Try.ntmps26
  go_wp2_with (go_at_call 36; refine hi.mono ?_; rintro e w' ⟨⟨j, hj, rfl⟩, hb⟩; replace hj := Aside0.mk hj)
  rw [hj.out]
  go_ret
  exact ⟨rfl, hb⟩
end Go.Proofs.Ytipkmbgebpeeoaa.Hd
