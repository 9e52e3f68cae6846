/- impl.areWithin: by hand (it hands a function literal to slices.ContainsFunc). -/
import Derived.Test.YtjaojemmbeddfaaGreatG0
import Derived.Test.YtjaojemmbeddfaaGreatMInB
namespace Go.Proofs.YtjaojemmbeddfaaGreat.Hd
set_option linter.unusedVariables false
set_option linter.unusedSimpArgs false
open Go.RowKit Go.Proofs.YtjaojemmbeddfaaGreatW.PrintWords Go.Proofs.YtjaojemmbeddfaaGreatW.PrintLast Go.Proofs.YtjaojemmbeddfaaGreatW.PrintMore
def impl_areWithin.f (l0 : List Int) (a1 : Int) (a2 : Int) : Option Bool := some (l0.all (inB a1 a2))

theorem clo_within (b1 b2 : Nat) (x a1 a2 : Int) (w : World) (h1 : w.cell? ⟨b1, 0, none⟩ = some (.int .i64 a1)) (h2 : w.cell? ⟨b2, 0, none⟩ = some (.int .i64 a2)) :
    Calls Tryz.prog 94 #[.int .i64 x, .pointer (some ⟨b1, 0, none⟩), .pointer (some ⟨b2, 0, none⟩)] w fun e w' => e = .returned (.bool (!inB a1 a2 x)) ∧ ∃ n, w' = w.drewN n := by
  by_cases c1 : a1 ≤ x
  · have d1 : decide (a1 ≤ x) = true := decide_eq_true c1
    have e0 : (!inB a1 a2 x) = !decide (x ≤ a2) := by simp [inB, c1]
    rw [e0]
    clear c1 e0
    go_enter Tryz.func94, Tryz.ntmps94
    go_wp2
    go_ret
    exact ⟨rfl, 0, rfl⟩
  · have d1 : decide (a1 ≤ x) = false := decide_eq_false c1
    have e0 : (!inB a1 a2 x) = true := by simp [inB, c1]
    rw [e0]
    clear c1 e0
    go_enter Tryz.func94, Tryz.ntmps94
    go_wp2
    go_ret
    exact ⟨rfl, 0, rfl⟩

def IdxEnd (p : Int → Bool) (l : List Int) (e : Ending) : Prop := ∃ j : Int, decide (0 ≤ j) = !l.all p ∧ e = .returned (.int .i64 j)
theorem all_miss {p : Int → Bool} {l : List Int} {k : Nat} {y : Int} (h : k < l.length) (hy : rd l k = y) (hq : p y = false) : IdxEnd p l (.returned (.int .i64 (k : Int))) := by
  refine ⟨k, ?_, rfl⟩
  have : l.all p = false := by
    rw [List.all_eq_false]
    exact ⟨y, by rw [← hy]; simp [rd, h], by simp [hq]⟩
  rw [this]; simp
theorem all_hit {p : Int → Bool} {l : List Int} {k : Nat} (h : ¬ k < l.length) (hq : (l.take k).all p = true) : IdxEnd p l (.returned (.int .i64 (-1))) := by
  rw [List.take_of_length_le (by omega)] at hq
  exact ⟨-1, by rw [hq]; rfl, rfl⟩
theorem take_all_succ {p : Int → Bool} {l : List Int} {k : Nat} {y : Int} (h : k < l.length) (hy : rd l k = y) (hq : p y = true) (ha : (l.take k).all p = true) : (l.take (k + 1)).all p = true := by
  rw [List.take_succ_eq_append_getElem h, List.all_append, ha]
  have : l[k] = y := by rw [← hy]; simp [rd, h]
  simp [this, hq]

set_option maxHeartbeats 1000000 in
theorem idxFunc_within (b1 b2 : Nat) (A0 : Option Addr) (c0 : Nat) (l0 : List Int) (a1 a2 : Int) (w : World) (hr : Kd.C (Kd.int .i64) w A0 l0.length l0) (hc0 : l0.length ≤ c0) (h1 : w.cell? ⟨b1, 0, none⟩ = some (.int .i64 a1)) (h2 : w.cell? ⟨b2, 0, none⟩ = some (.int .i64 a2)) :
    Calls Tryz.prog 102 #[.slice A0 l0.length c0, .func (.func 94) #[] #[.pointer (some ⟨b1, 0, none⟩), .pointer (some ⟨b2, 0, none⟩)]] w fun e w' => IdxEnd (inB a1 a2) l0 e ∧ ∃ n, w' = w.drewN n := by
  have HR := Aside0.mk hr
  have hm := hr.2.1
  clear hr
  go_enter Tryz.func102, Tryz.ntmps102
  go_wp2
  go_loopg [5, 8] l0.length (fun gg _ s8 wr => ∃ kk q : Nat, kk ≤ l0.length ∧ l0.length - kk ≤ gg ∧ s8 = .int .i64 kk ∧ wr = w.drewN q ∧ Aside0 ((l0.take kk).all (inB a1 a2) = true))
  case atStart => exact ⟨0, 0, Nat.zero_le _, by omega, rfl, rfl, ⟨by simp⟩⟩
  case round =>
    obtain ⟨kk, q, hkk, hg, rfl, rfl, HA⟩ := hrel
    by_cases hlt : kk < l0.length
    · obtain ⟨ad, rfl, hcell⟩ := Kd.at_int HR.out (kk : Int) (by omega) (by omega)
      have hltz : (kk : Int) < (l0.length : Int) := by omega
      simp only [Int.toNat_natCast] at hcell
      obtain ⟨y, hy⟩ : ∃ y, rd l0 kk = y := ⟨_, rfl⟩
      rw [hy] at hcell
      have HY := Aside0.mk hy
      clear hy
      have hcall := clo_within b1 b2 y a1 a2 (w.drewN q) h1 h2
      cases hq : inB a1 a2 y with
      | true =>
        rw [hq] at hcall
        go_wp2_with (go_at_call 94; refine hcall.mono ?_; rintro e w' ⟨rfl, q', rfl⟩)
        go_roundg (l0.length - (kk + 1))
        case measure => omega
        case rel => exact ⟨kk + 1, _, by omega, by omega, by go_num, rfl, ⟨take_all_succ hlt HY.out hq HA.out⟩⟩
      | false =>
        rw [hq] at hcall
        go_wp2_with (go_at_call 94; refine hcall.mono ?_; rintro e w' ⟨rfl, q', rfl⟩)
        go_ret
        exact ⟨all_miss hlt HY.out hq, _, rfl⟩
    · have hltz : ¬ (kk : Int) < (l0.length : Int) := by omega
      go_wp2
      go_ret
      exact ⟨all_hit hlt HA.out, q, rfl⟩

theorem contFunc_within (b1 b2 : Nat) (A0 : Option Addr) (c0 : Nat) (l0 : List Int) (a1 a2 : Int) (w : World) (hr : Kd.C (Kd.int .i64) w A0 l0.length l0) (hc0 : l0.length ≤ c0) (h1 : w.cell? ⟨b1, 0, none⟩ = some (.int .i64 a1)) (h2 : w.cell? ⟨b2, 0, none⟩ = some (.int .i64 a2)) :
    Calls Tryz.prog 93 #[.slice A0 l0.length c0, .func (.func 94) #[] #[.pointer (some ⟨b1, 0, none⟩), .pointer (some ⟨b2, 0, none⟩)]] w fun e w' => e = .returned (.bool (!l0.all (inB a1 a2))) ∧ ∃ n, w' = w.drewN n := by
  have hi := idxFunc_within b1 b2 A0 c0 l0 a1 a2 w hr hc0 h1 h2
  clear hr
  go_enter Tryz.func93, Tryz.ntmps93
  go_wp2_with (go_at_call 102; refine hi.mono ?_; rintro e w' ⟨⟨j, hj, rfl⟩, q, rfl⟩; replace hj := Aside0.mk hj)
  rw [hj.out]
  go_ret
  exact ⟨rfl, q, rfl⟩

set_option maxHeartbeats 1000000 in
theorem impl_areWithin.calls (A0 : Option Addr) (c0 : Nat) (l0 : List Int) (a1 : Int) (a2 : Int) (r : Bool) (w : World) (hr0 : Kd.C (Kd.int .i64) w A0 l0.length l0) (hc0 : l0.length ≤ c0) (h : impl_areWithin.f l0 a1 a2 = some r) :
    Calls Tryz.prog 76 #[.slice A0 l0.length c0, .int .i64 a1, .int .i64 a2] w fun e w' => e = .returned (.bool r) ∧ Below w.heap.size w w' := by
  obtain rfl := Option.some.inj h
  clear h
  have HR : Aside0 (∀ W, Below w.heap.size w W → Kd.C (Kd.int .i64) W A0 l0.length l0) := ⟨fun W hb => Kd.C_below hr0 hb⟩
  clear hr0
  go_enter Tryz.func76, Tryz.ntmps76
  go_wp2_with (go_at_call 93; refine (contFunc_within w.heap.size (w.heap.size + 1) A0 c0 l0 a1 a2 _ (HR.out _ (((Below.refl _ _).alloc (Nat.le_refl _) _).alloc (by simp) _)) hc0 (by simp) (by simp)).mono ?_; rintro e w' ⟨rfl, q, rfl⟩)
  go_ret
  exact ⟨by simp only [Bool.not_not]; rfl, pw_below_drewN (((Below.refl _ _).alloc (Nat.le_refl _) _).alloc (by simp) _) _⟩
end Go.Proofs.YtjaojemmbeddfaaGreat.Hd
