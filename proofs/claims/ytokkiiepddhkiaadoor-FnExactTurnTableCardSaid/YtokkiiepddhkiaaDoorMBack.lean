/- slices.Backward over a row of texts: what it hands to a round, one after the other (turned from the worked proofs on ranges over functions). -/
import Derived.RangeFuncBox
import Derived.RangeFuncLeaves
import Derived.RangeFuncFrom
import Derived.RangeFuncWrites
import Derived.Shelf.Abstract
import Derived.Shelf.RegionOpen
import Derived.WalkKit
import Derived.OwnWalkIn
import Derived.TacticsInMore
import Derived.LoopNIn
import Derived.LoopIn
import Derived.Maps.AppendAt
import Derived.Test.YtokkiiepddhkiaaDoorProg
namespace Go.Proofs.YtokkiiepddhkiaaDoor.Hd
open Go Go.RowKit Go.Shelf
set_option linter.unusedVariables false
set_option linter.unusedSimpArgs false
attribute [local go_sem] Oper.semAt_some
/-- What round x of R is handed. -/
abbrev encB (rows : List ByteArray) (R x : Nat) : Array Value := #[.int .i64 ((R - 1 - x : Nat) : Int), .string (rows[R - 1 - x]?.getD ByteArray.empty)]
theorem frB_take {R k : Nat} (h : k < R) : (List.finRange R).take k ++ [⟨k, h⟩] = (List.finRange R).take (k + 1) := by
  have e : ((List.finRange R)[k]'(by simpa using h)) = ⟨k, h⟩ := by simp
  rw [List.take_succ_eq_append_getElem (by simpa using h), e]
/-- What a box and a row hold they go on holding. -/
def BackK (Bs : Nat) (ts : TypeId) (g : Nat) (W W' : World) : Prop := (∀ v, Boxed W Bs ts v → Boxed W' Bs ts v) ∧ ∀ cur T, W.heap[g]? = some (.cells cur T (0, 0)) → W'.heap[g]? = some (.cells cur T (0, 0))
theorem backK_t {Bs ts g} {X Y Z : World} (h : BackK Bs ts g X Y) (k : BackK Bs ts g Y Z) : BackK Bs ts g X Z := ⟨fun v q => k.1 v (h.1 v q), fun c T q => k.2 c T (h.2 c T q)⟩
theorem cells_put {W : World} {l B : Nat} {o o' : Obj} {cur : Array Value} {t : TypeId} (h : W.heap[l]? = some o) (ho : o.isCells = false) (hb : W.heap[B]? = some (.cells cur t (0, 0))) : (W.putObj l o').heap[B]? = some (.cells cur t (0, 0)) := by
  have hne : B ≠ l := fun e => by
    subst e
    rw [hb] at h
    injection h with h
    subst h
    cases ho
  exact ((grownBy_putObj' W l o').block B (Array.getElem?_eq_some_iff.1 hb).1 (fun e => hne (by injection e))).trans hb
theorem backK_b {Bs ts g} {w : World} (W : World) (l : Nat) (o o' : Obj) (_ : w.heap.size ≤ l) (h : W.heap[l]? = some o) (ho : o.isCells = false) (_ : o.isWalk = false) : BackK Bs ts g W (W.putObj l o') := ⟨fun v q => cells_put h ho q, fun c T q => cells_put h ho q⟩
set_option maxRecDepth 100000 in
set_option maxHeartbeats 4000000 in
theorem back1_in (F : Fence) (n : Nat) (h76 : F.fn 34) (hro : F.round = none) (hn : 1 ≤ n) (l Bs g R cap : Nat) (rows : List ByteArray) (cur : Array Value) (hR : R ≤ 1000000) (hcur : ∀ j, j < R → cur[j]? = some (.string (rows[j]?.getD ByteArray.empty))) (J Jx : List (Fin R) → World → Prop)
    (hY : ∀ pre x W, J pre W → pre.length < R → YieldAt F (n - 1) Tryd.prog l (encB rows R x.val) W fun e W' =>
      (e = .returned (.bool true) ∧ J (pre ++ [x]) W' ∧ BackK Bs 40 g W W') ∨ (e = .returned (.bool false) ∧ Jx (pre ++ [x]) W'))
    (W : World) (hJ : AbidesFrom W.heap.size J) (hBs : Boxed W Bs 40 (.slice (some ⟨g, 0, none⟩) R cap)) (hg : W.heap[g]? = some (.cells cur 9 (0, 0))) (h0 : J [] W) :
    CallsIn F n Tryd.prog 34 #[.func (.yield l) #[] #[], .pointer (some ⟨Bs, 0, none⟩)] W fun e W' => (∃ v, e = .returned v) ∧
      ((∃ ys, ys = List.finRange R ∧ J ys W') ∨ (∃ pre, pre <+: List.finRange R ∧ Jx pre W')) := by
  refine callsIn_of_wp Tryd.func34 rfl h76 ?_ hro
  simp only [Tryd.ntmps34, List.size_toArray, List.length_cons, List.length_nil, Nat.reduceAdd, Nat.reduceSub, Array.replicate_succ, Array.replicate_zero, List.push_toArray, List.append_toArray, List.nil_append, List.cons_append]
  have hc0 := hBs.cell
  gi_wp2
  gi_loopw [3] (fun i wr => ∃ (k : Nat) (z : Int), k ≤ R ∧ i = .int .i64 z ∧ z = (R : Int) - 1 - (k : Int) ∧ J ((List.finRange R).take k) wr ∧ Boxed wr Bs 40 (.slice (some ⟨g, 0, none⟩) R cap) ∧ wr.heap[g]? = some (.cells cur 9 (0, 0)))
    (fun i _ => (intOf i + 1).toNat)
  case atStart => exact ⟨0, _, Nat.zero_le _, rfl, by omega, by rw [List.take_zero]; exact h0, hBs, hg⟩
  case round =>
    obtain ⟨k, z, hk, rfl, hz, hJs, hbs, hgs⟩ := hrel
    have hcs := hbs.cell
    by_cases hlt : k < R
    · obtain ⟨j, hj⟩ : ∃ j : Nat, j + k + 1 = R := ⟨R - 1 - k, by omega⟩
      obtain rfl : z = (j : Int) := by omega
      clear hz
      have hjR : (j : Int) < (R : Int) := by omega
      have hj0 : (0 : Int) ≤ (j : Int) := by omega
      have hcj : wr.cell? ⟨g, j, none⟩ = some (.string (rows[j]?.getD ByteArray.empty)) := by
        rw [World.cell?, hgs]
        simpa using hcur j (by omega)
      obtain ⟨fn, tmps, assign, body, hy, hRd⟩ := hY _ ⟨k, hlt⟩ wr hJs (by rw [List.length_take, List.length_finRange]; omega)
      have e0 : encB rows R (⟨k, hlt⟩ : Fin R).val = #[.int .i64 (j : Int), .string (rows[j]?.getD ByteArray.empty)] := by unfold encB; rw [show R - 1 - (⟨k, hlt⟩ : Fin R).val = j by show R - 1 - k = j; omega]
      rw [e0] at hy
      gi_wp2
      refine hRd.mono ?_
      rintro e W3 (⟨rfl, hJ3, hk3⟩ | ⟨rfl, hJx3⟩)
      · gi_wp2
        go_roundw
        case rel => exact ⟨k + 1, (j : Int) - 1, by omega, rfl, by omega, by rw [← frB_take hlt]; exact hJ3, hk3.1 _ hbs, hk3.2 _ _ hgs⟩
        case measure => first | (simp [intOf]; done) | (simp [intOf]; omega)
      · gi_wp2
        refine bodyPost_ret (results_none rfl _ _ _) rfl ?_
        exact ⟨⟨_, rfl⟩, .inr ⟨_, by rw [frB_take hlt]; exact List.take_prefix _ _, hJx3⟩⟩
    · obtain rfl : k = R := by omega
      have hz1 : ¬ ((0 : Int) ≤ z) := by omega
      rw [List.take_of_length_le (by simp)] at hJs
      gi_wp2
      go_end0
      exact ⟨⟨_, rfl⟩, .inl hJs⟩
theorem back_stops (F : Fence) (n : Nat) (h76 : F.fn 34) (hro : F.round = none) (hn : 1 ≤ n) (Bs g R cap : Nat) (rows : List ByteArray) (cur : Array Value) (hR : R ≤ 1000000) (hcur : ∀ j, j < R → cur[j]? = some (.string (rows[j]?.getD ByteArray.empty))) (W0 : World) (hBs : Boxed W0 Bs 40 (.slice (some ⟨g, 0, none⟩) R cap)) (hg : W0.heap[g]? = some (.cells cur 9 (0, 0))) :
    SeqStopsK F n Tryd.prog 34 #[.pointer (some ⟨Bs, 0, none⟩)] (fun x : Fin R => encB rows R x.val) (BackK Bs 40 g) (fun ys => ys = List.finRange R) (fun pre => pre <+: List.finRange R) R W0 := fun l J Jx W hW hJ _ hY h0 =>
  back1_in F n h76 hro hn l Bs g R cap rows cur hR hcur J Jx hY W hJ ((hW.block _ hBs.lt).trans hBs) ((hW.block _ (Array.getElem?_eq_some_iff.1 hg).1).trans hg) h0
set_option maxHeartbeats 4000000 in
theorem backF_in (F : Fence) (n : Nat) (h1 : F.fn 19) (hro : F.round = none) (g N cap : Nat) (w : World) :
    CallsIn F n Tryd.prog 19 #[.slice (some ⟨g, 0, none⟩) N cap] w fun e W' => e = .returned (.func (.func 34) #[] #[.pointer (some ⟨w.heap.size, 0, none⟩)]) ∧ Boxed W' w.heap.size 40 (.slice (some ⟨g, 0, none⟩) N cap) ∧ W'.heap.size = w.heap.size + 1 ∧ Below w.heap.size w W' := by
  refine callsIn_of_wp Tryd.func19 rfl h1 ?_ hro
  simp only [Tryd.ntmps19, List.size_toArray, List.length_cons, List.length_nil, Nat.reduceAdd, Nat.reduceSub, Array.replicate_succ, Array.replicate_zero, List.push_toArray, List.append_toArray, List.nil_append, List.cons_append]
  gi_wp2
  go_ret
  exact ⟨rfl, Boxed.new w _ _, by simp, (Below.refl _ w).alloc (Nat.le_refl _) _⟩
/-- Marks of ranges that are over. -/
def marksD (Ds : List Nat) : List Deferred := Ds.map fun D => { target := .collected D, args := #[] }
theorem leaves_marks {F : Fence} {n : Nat} {P : Program} {fn : Func} {tmps : Array Value} {R : Ending → World → Prop} {w : World} : ∀ (Ds : List Nat) (W : World), Ds.Nodup → (∀ D ∈ Ds, w.heap.size ≤ D ∧ W.heap[D]? = some (.deferred (some []))) → (∀ W', Below w.heap.size W W' → LeavesIn F n P fn tmps R [] .returning W') → LeavesInM F n P fn tmps R (marksD Ds) .returning W := by
  intro Ds
  induction Ds with
  | nil => intro W _ _ h; exact h W (Below.refl _ _)
  | cons D Ds ih =>
    intro W hn hD h
    obtain ⟨hn1, hn2⟩ := List.nodup_cons.1 hn
    obtain ⟨h1, h2⟩ := hD D List.mem_cons_self
    have hb : Below w.heap.size W (W.putObj D (.deferred none)) := belowK_b (w := w) (Nat.le_refl _) W D _ _ h1 h2 rfl rfl
    refine ⟨by simp, .inl ⟨_, _, rfl, run_takeDeferred h2, ih _ hn2 (fun D' hD' => ?_) (fun W' q => h W' (hb.trans q))⟩⟩
    obtain ⟨q1, q2⟩ := hD D' (List.mem_cons_of_mem _ hD')
    refine ⟨q1, ?_⟩
    have hne : D' ≠ D := fun e => hn1 (e ▸ hD')
    exact ((grownBy_putObj' W D (.deferred none)).block D' (Array.getElem?_eq_some_iff.1 q2).1 (fun e => hne (by injection e))).trans q2
end Go.Proofs.YtokkiiepddhkiaaDoor.Hd
