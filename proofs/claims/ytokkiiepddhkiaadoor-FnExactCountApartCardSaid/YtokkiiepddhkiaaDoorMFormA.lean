/- slices.Chunk over bytes: what it hands to a round, one after the other (turned from the worked proofs on ranges over functions). -/
import Derived.RangeFuncBox
import Derived.RangeFuncLeaves
import Derived.RangeFuncFrom
import Derived.RangeFuncWrites
import Derived.Shelf.Abstract
import Derived.Shelf.RegionOpen
import Derived.WalkKit
import Derived.OwnWalkIn
import Derived.TacticsInMore
import Derived.LoopNIn
import Derived.LoopIn
import Derived.Maps.AppendAt
import Derived.Laws.IdiomStrings
import Derived.Test.YtokkiiepddhkiaaDoorProg
namespace Go.Proofs.YtokkiiepddhkiaaDoor.Hd
open Go Go.RowKit Go.Shelf
set_option linter.unusedVariables false
set_option linter.unusedSimpArgs false
attribute [local go_sem] Oper.semAt_some
abbrev hdrC (g w j : Nat) : Value := .slice (some ⟨g, j * w, none⟩) w w
theorem fr_take {R k : Nat} (h : k < R) : (List.finRange R).take k ++ [⟨k, h⟩] = (List.finRange R).take (k + 1) := by
  have e : ((List.finRange R)[k]'(by simpa using h)) = ⟨k, h⟩ := by simp
  rw [List.take_succ_eq_append_getElem (by simpa using h), e]
/-- What two boxes hold they go on holding. -/
def BoxK (Bs : Nat) (ts : TypeId) (Bn : Nat) (tn : TypeId) (W W' : World) : Prop := (∀ v, Boxed W Bs ts v → Boxed W' Bs ts v) ∧ ∀ v, Boxed W Bn tn v → Boxed W' Bn tn v
theorem boxK_t {Bs ts Bn tn} {X Y Z : World} (h : BoxK Bs ts Bn tn X Y) (k : BoxK Bs ts Bn tn Y Z) : BoxK Bs ts Bn tn X Z := ⟨fun v q => k.1 v (h.1 v q), fun v q => k.2 v (h.2 v q)⟩
theorem boxed_put {W : World} {l B : Nat} {o o' : Obj} {t : TypeId} {v : Value} (h : W.heap[l]? = some o) (ho : o.isCells = false) (hb : Boxed W B t v) : Boxed (W.putObj l o') B t v :=
  hb.kept (grownBy_putObj' W l o') (fun e => by
    obtain rfl : B = l := by injection e
    rw [show W.heap[B]? = _ from hb] at h
    injection h with h
    subst h
    cases ho)
theorem boxK_b {Bs ts Bn tn} {w : World} (W : World) (l : Nat) (o o' : Obj) (_ : w.heap.size ≤ l) (h : W.heap[l]? = some o) (ho : o.isCells = false) (_ : o.isWalk = false) : BoxK Bs ts Bn tn W (W.putObj l o') := ⟨fun v q => boxed_put h ho q, fun v q => boxed_put h ho q⟩
set_option maxRecDepth 100000 in
set_option maxHeartbeats 4000000 in
theorem chunk1_in (F : Fence) (n : Nat) (h76 : F.fn 89) (hro : F.round = none) (hn : 1 ≤ n) (l Bs Bn g w R N cap : Nat) (hw : 1 ≤ w) (hN : R * w = N) (hN2 : N ≤ 1000000) (hcap : N ≤ cap) (hc2 : cap ≤ 9223372036854775807) (J Jx : List (Fin R) → World → Prop)
    (hY : ∀ pre x W, J pre W → pre.length < R → YieldAt F (n - 1) Tryd.prog l #[hdrC g w x.val] W fun e W' =>
      (e = .returned (.bool true) ∧ J (pre ++ [x]) W' ∧ BoxK Bs 42 Bn 3 W W') ∨ (e = .returned (.bool false) ∧ Jx (pre ++ [x]) W'))
    (W : World) (hJ : AbidesFrom W.heap.size J) (hBs : Boxed W Bs 42 (.slice (some ⟨g, 0, none⟩) N cap)) (hBn : Boxed W Bn 3 (.int .i64 (w : Int))) (h0 : J [] W) :
    CallsIn F n Tryd.prog 89 #[.func (.yield l) #[] #[], .pointer (some ⟨Bs, 0, none⟩), .pointer (some ⟨Bn, 0, none⟩)] W fun e W' => (∃ v, e = .returned v) ∧
      ((∃ ys, ys = List.finRange R ∧ J ys W') ∨ (∃ pre, pre <+: List.finRange R ∧ Jx pre W')) := by
  refine callsIn_of_wp Tryd.func89 rfl h76 ?_ hro
  simp only [Tryd.ntmps89, List.size_toArray, List.length_cons, List.length_nil, Nat.reduceAdd, Nat.reduceSub, Array.replicate_succ, Array.replicate_zero, List.push_toArray, List.append_toArray, List.nil_append, List.cons_append]
  gi_wp2
  gi_loopw [4] (fun i wr => ∃ k p : Nat, k ≤ R ∧ k * w = p ∧ i = .int .i64 (p : Int) ∧ J ((List.finRange R).take k) wr ∧ Boxed wr Bs 42 (.slice (some ⟨g, 0, none⟩) N cap) ∧ Boxed wr Bn 3 (.int .i64 (w : Int)))
    (fun i _ => N - (intOf i).toNat)
  case atStart => exact ⟨0, 0, Nat.zero_le _, by simp, rfl, by rw [List.take_zero]; exact h0, hBs, hBn⟩
  case round =>
    obtain ⟨k, p, hk, hp, rfl, hJs, hbs, hbn⟩ := hrel
    have hcs : wr.cell? ⟨Bs, 0, none⟩ = some (.slice (some ⟨g, 0, none⟩) N cap) := hbs.cell
    have hcn : wr.cell? ⟨Bn, 0, none⟩ = some (.int .i64 (w : Int)) := hbn.cell
    by_cases hlt : k < R
    · have hpw : p + w ≤ N := by
        have h1 : (k + 1) * w ≤ R * w := Nat.mul_le_mul_right w hlt
        rw [Nat.add_mul, Nat.one_mul] at h1
        omega
      have hJd : J ((List.finRange R).take k) wr.drew := hJ _ _ _ none hJs ⟨rfl, rfl, rfl, Nat.le_refl _, fun _ _ _ => rfl⟩ (fun r e => by cases e)
      obtain ⟨fn, tmps, assign, body, hy, hR⟩ := hY _ ⟨k, hlt⟩ wr.drew hJd (by rw [List.length_take, List.length_finRange]; omega)
      have e0 : hdrC g w (⟨k, hlt⟩ : Fin R).val = .slice (some ⟨g, p, none⟩) w w := by unfold hdrC; rw [hp]
      rw [e0] at hy
      have hmo : Tryd.prog.follows .mixedOrders = true := by kernel_rfl
      have hif : ¬ (N - p < w) := by omega
      have hmin : min (w : Int) ((N - p : Nat) : Int) = (w : Int) := by omega
      have hmw : ((p : Int) + (w : Int)).toNat - p = w := by omega
      gi_wp2
      gi_region_o
      all_goals
        gi_wp2
        refine hR.mono ?_
        rintro e W3 (⟨rfl, hJ3, hk3⟩ | ⟨rfl, hJx3⟩)
        · have hcn3 : W3.cell? ⟨Bn, 0, none⟩ = some (.int .i64 (w : Int)) := (hk3.2 _ hbn).cell
          gi_wp2
          go_roundw
          case rel => exact ⟨k + 1, p + w, by omega, by rw [Nat.add_mul, Nat.one_mul, hp], by simp, by rw [← fr_take hlt]; exact hJ3, hk3.1 _ hbs, hk3.2 _ hbn⟩
          case measure => simp [intOf]; omega
        · gi_wp2
          refine bodyPost_ret (results_none rfl _ _ _) rfl ?_
          exact ⟨⟨_, rfl⟩, .inr ⟨_, by rw [fr_take hlt]; exact List.take_prefix _ _, hJx3⟩⟩
    · obtain rfl : k = R := by omega
      have hpN : p = N := by omega
      subst hpN
      gi_wp2
      go_end0
      exact ⟨⟨_, rfl⟩, .inl ⟨_, rfl, by rw [List.take_of_length_le (by simp)] at hJs; exact hJs⟩⟩
theorem chunk_stops (F : Fence) (n : Nat) (h76 : F.fn 89) (hro : F.round = none) (hn : 1 ≤ n) (Bs Bn g w R N cap : Nat) (hw : 1 ≤ w) (hN : R * w = N) (hN2 : N ≤ 1000000) (hcap : N ≤ cap) (hc2 : cap ≤ 9223372036854775807) (W0 : World) (hBs : Boxed W0 Bs 42 (.slice (some ⟨g, 0, none⟩) N cap)) (hBn : Boxed W0 Bn 3 (.int .i64 (w : Int))) :
    SeqStopsK F n Tryd.prog 89 #[.pointer (some ⟨Bs, 0, none⟩), .pointer (some ⟨Bn, 0, none⟩)] (fun x : Fin R => #[hdrC g w x.val]) (BoxK Bs 42 Bn 3) (fun ys => ys = List.finRange R) (fun pre => pre <+: List.finRange R) R W0 := fun l J Jx W hW hJ _ hY h0 =>
  chunk1_in F n h76 hro hn l Bs Bn g w R N cap hw hN hN2 hcap hc2 J Jx hY W hJ ((hW.block _ hBs.lt).trans hBs) ((hW.block _ hBn.lt).trans hBn) h0
set_option maxHeartbeats 4000000 in
theorem chunkF_in (F : Fence) (n : Nat) (h1 : F.fn 68) (hro : F.round = none) (g N cap wd : Nat) (hw : 1 ≤ wd) (w : World) :
    CallsIn F n Tryd.prog 68 #[.slice (some ⟨g, 0, none⟩) N cap, .int .i64 (wd : Int)] w fun e W' => e = .returned (.func (.func 89) #[] #[.pointer (some ⟨w.heap.size, 0, none⟩), .pointer (some ⟨w.heap.size + 1, 0, none⟩)]) ∧ Boxed W' w.heap.size 42 (.slice (some ⟨g, 0, none⟩) N cap) ∧ Boxed W' (w.heap.size + 1) 3 (.int .i64 (wd : Int)) ∧ W'.heap.size = w.heap.size + 2 ∧ Below w.heap.size w W' := by
  refine callsIn_of_wp Tryd.func68 rfl h1 ?_ hro
  simp only [Tryd.ntmps68, List.size_toArray, List.length_cons, List.length_nil, Nat.reduceAdd, Nat.reduceSub, Array.replicate_succ, Array.replicate_zero, List.push_toArray, List.append_toArray, List.nil_append, List.cons_append]
  have hnl : ¬ ((wd : Int) < 1) := by omega
  gi_wp2
  go_ret
  have b0 : Below w.heap.size w (w.alloc (.cells #[.slice (some ⟨g, 0, none⟩) N cap] 42)) := (Below.refl _ w).alloc (Nat.le_refl _) _
  have q2 : Boxed ((w.alloc (.cells #[.slice (some ⟨g, 0, none⟩) N cap] 42)).alloc (.cells #[.int .i64 (wd : Int)] 3)) (w.alloc (.cells #[.slice (some ⟨g, 0, none⟩) N cap] 42)).heap.size 3 (.int .i64 (wd : Int)) := Boxed.new _ _ _
  rw [World.size_alloc] at q2
  exact ⟨rfl, (Boxed.new w _ _).alloc _, q2, by simp, b0.alloc (by simp) _⟩
end Go.Proofs.YtokkiiepddhkiaaDoor.Hd
