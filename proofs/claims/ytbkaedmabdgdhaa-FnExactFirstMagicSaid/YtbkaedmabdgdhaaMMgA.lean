/- Chunks of a row: their headers as a row of the call's own; what they read. -/
import Derived.Test.YtbkaedmabdgdhaaMSxM
import Derived.Test.YtbkaedmabdgdhaaMSxN
import Derived.RangeFuncBox
import Derived.RangeFuncLeaves
import Derived.RangeFuncFrom
import Derived.RangeFuncWrites
import Derived.Shelf.Abstract
import Derived.Shelf.RegionOpen
import Derived.WalkKit
import Derived.OwnWalkIn
import Derived.TacticsInMore
import Derived.LoopNIn
import Derived.LoopIn
import Derived.Maps.AppendAt
import Derived.Test.YtbkaedmabdgdhaaProg
namespace Go.Proofs.Ytbkaedmabdgdhaa.Hd
open Go Go.RowKit Go.Shelf
set_option linter.unusedVariables false
set_option linter.unusedSimpArgs false
attribute [local go_sem] Oper.semAt_some
/-- The header of the j-th chunk. -/
abbrev hdrC (g w j : Nat) : Value := .slice (some ⟨g, j * w, none⟩) w w
theorem range_pre {k R : Nat} (h : k < R) : List.range (k + 1) <+: List.range R := by
  obtain ⟨d, rfl⟩ : ∃ d, R = (k + 1) + d := ⟨R - (k + 1), by omega⟩
  rw [show List.range (k + 1 + d) = List.range (k + 1) ++ (List.range d).map (fun x => k + 1 + x) from List.range_add]; exact List.prefix_append _ _
theorem below_drew (n : Nat) (W : World) : Below n W W.drew := ⟨rfl, rfl, rfl, Nat.le_refl _, fun _ _ => rfl⟩
set_option maxRecDepth 100000 in
set_option maxHeartbeats 4000000 in
theorem chunk1_in (F : Fence) (n : Nat) (h76 : F.fn 76) (hro : F.round = none) (hn : 1 ≤ n) (l Bs Bn n₀ g w R N cap : Nat) (hw : 1 ≤ w) (hN : R * w = N) (hN2 : N ≤ 1000000) (hcap : N ≤ cap) (hc2 : cap ≤ 9223372036854775807) (hb : Bs < n₀) (hb2 : Bn < n₀) (J Jx : List Nat → World → Prop)
    (hY : ∀ pre x W, J pre W → pre.length < R → YieldAt F (n - 1) Try.prog l #[hdrC g w x] W fun e W' =>
      (e = .returned (.bool true) ∧ J (pre ++ [x]) W' ∧ Below n₀ W W') ∨ (e = .returned (.bool false) ∧ Jx (pre ++ [x]) W'))
    (W : World) (hJ : AbidesFrom W.heap.size J) (hBs : W.cell? ⟨Bs, 0, none⟩ = some (.slice (some ⟨g, 0, none⟩) N cap)) (hBn : W.cell? ⟨Bn, 0, none⟩ = some (.int .i64 (w : Int))) (h0 : J [] W) :
    CallsIn F n Try.prog 76 #[.func (.yield l) #[] #[], .pointer (some ⟨Bs, 0, none⟩), .pointer (some ⟨Bn, 0, none⟩)] W fun e W' => (∃ v, e = .returned v) ∧
      ((∃ ys, ys = List.range R ∧ J ys W') ∨ (∃ pre, pre <+: List.range R ∧ Jx pre W')) := by
  refine callsIn_of_wp Try.func76 rfl h76 ?_ hro
  simp only [Try.ntmps76, List.size_toArray, List.length_cons, List.length_nil, Nat.reduceAdd, Nat.reduceSub, Array.replicate_succ, Array.replicate_zero, List.push_toArray, List.append_toArray, List.nil_append, List.cons_append]
  gi_wp2
  gi_loopw [4] (fun i wr => ∃ k p : Nat, k ≤ R ∧ k * w = p ∧ i = .int .i64 (p : Int) ∧ J (List.range k) wr ∧ Below n₀ W wr)
    (fun i _ => N - (intOf i).toNat)
  case atStart => exact ⟨0, 0, Nat.zero_le _, by simp, rfl, h0, Below.refl _ _⟩
  case round =>
    obtain ⟨k, p, hk, hp, rfl, hJs, hnx⟩ := hrel
    have hcs : wr.cell? ⟨Bs, 0, none⟩ = some (.slice (some ⟨g, 0, none⟩) N cap) := (hnx.cell (p := ⟨Bs, 0, none⟩) hb).trans hBs
    have hcn : wr.cell? ⟨Bn, 0, none⟩ = some (.int .i64 (w : Int)) := (hnx.cell (p := ⟨Bn, 0, none⟩) hb2).trans hBn
    by_cases hlt : k < R
    · have hpw : p + w ≤ N := by
        have h1 : (k + 1) * w ≤ R * w := Nat.mul_le_mul_right w hlt
        rw [Nat.add_mul, Nat.one_mul] at h1
        omega
      have hJd : J (List.range k) wr.drew := hJ _ _ _ none hJs ⟨rfl, rfl, rfl, Nat.le_refl _, fun _ _ _ => rfl⟩ (fun r e => by cases e)
      obtain ⟨fn, tmps, assign, body, hy, hR⟩ := hY _ k wr.drew hJd (by simpa using hlt)
      unfold hdrC at hy
      rw [hp] at hy
      have hmo : Try.prog.follows .mixedOrders = true := by kernel_rfl
      have hif : ¬ (N - p < w) := by omega
      gi_wp2
      gi_region_o
      all_goals
        gi_wp2
        refine hR.mono ?_
        rintro e W3 (⟨rfl, hJ3, hk3⟩ | ⟨rfl, hJx3⟩)
        · have hcn3 : W3.cell? ⟨Bn, 0, none⟩ = some (.int .i64 (w : Int)) := (hk3.cell (p := ⟨Bn, 0, none⟩) hb2).trans hcn
          gi_wp2
          go_roundw
          case rel => exact ⟨k + 1, p + w, by omega, by rw [Nat.add_mul, Nat.one_mul, hp], by simp, by rw [List.range_succ]; exact hJ3, hnx.trans (Below.trans (below_drew _ _) hk3)⟩
          case measure => simp [intOf]; omega
        · gi_wp2
          refine bodyPost_ret (results_none rfl _ _ _) rfl ?_
          refine ⟨⟨_, rfl⟩, .inr ⟨_, ?_, hJx3⟩⟩
          rw [← List.range_succ]
          exact range_pre hlt
    · obtain rfl : k = R := by omega
      have hpN : p = N := by omega
      subst hpN
      gi_wp2
      go_end0
      exact ⟨⟨_, rfl⟩, .inl ⟨_, rfl, hJs⟩⟩
theorem chunk_stops (F : Fence) (n : Nat) (h76 : F.fn 76) (hro : F.round = none) (hn : 1 ≤ n) (Bs Bn n₀ g w R N cap : Nat) (hw : 1 ≤ w) (hN : R * w = N) (hN2 : N ≤ 1000000) (hcap : N ≤ cap) (hc2 : cap ≤ 9223372036854775807) (hb : Bs < n₀) (hb2 : Bn < n₀) (W0 : World) (hn0 : n₀ ≤ W0.heap.size)
    (hBs : W0.cell? ⟨Bs, 0, none⟩ = some (.slice (some ⟨g, 0, none⟩) N cap)) (hBn : W0.cell? ⟨Bn, 0, none⟩ = some (.int .i64 (w : Int))) :
    SeqStopsK F n Try.prog 76 #[.pointer (some ⟨Bs, 0, none⟩), .pointer (some ⟨Bn, 0, none⟩)] (fun x : Nat => #[hdrC g w x]) (Below n₀) (fun ys => ys = List.range R) (fun pre => pre <+: List.range R) R W0 := fun l J Jx W hW hJ _ hY h0 =>
  chunk1_in F n h76 hro hn l Bs Bn n₀ g w R N cap hw hN hN2 hcap hc2 hb hb2 J Jx hY W hJ ((hW.cell (p := ⟨Bs, 0, none⟩) (by show Bs < _; omega)).trans hBs) ((hW.cell (p := ⟨Bn, 0, none⟩) (by show Bn < _; omega)).trans hBn) h0
theorem infoRow : (Try.prog.info? 39).map (fun i => (i.zero, i.size, i.bytes)) = some (some (.slice none 0 0), 1, 24) := by kernel_rfl
set_option maxRecDepth 100000 in
set_option maxHeartbeats 4000000 in
theorem appendSeq_in (F : Fence) (n : Nat) (h75 : F.fn 75) (h76 : F.fn 76) (hro : F.round = none) (hn : 3 ≤ n) (Bs Bn g wd R N cap : Nat) (hw : 1 ≤ wd) (hN : R * wd = N) (hN2 : N ≤ 1000000) (hcap : N ≤ cap) (hc2 : cap ≤ 9223372036854775807) (w : World) (hb : Bs < w.heap.size) (hb2 : Bn < w.heap.size)
    (hBs : w.cell? ⟨Bs, 0, none⟩ = some (.slice (some ⟨g, 0, none⟩) N cap)) (hBn : w.cell? ⟨Bn, 0, none⟩ = some (.int .i64 (wd : Int))) :
    CallsIn F n Try.prog 75 #[.slice none 0 0, .func (.func 76) #[] #[.pointer (some ⟨Bs, 0, none⟩), .pointer (some ⟨Bn, 0, none⟩)]] w fun e W' => ∃ v, e = .returned v ∧ W'.ownsRow w.heap.size 39 1 v R ((List.range R).map (hdrC g wd)) ∧ Below w.heap.size w W' := by
  have h1 : 1 ≤ n := by omega
  have hRN : R ≤ 1000000 := by
    have := Nat.mul_le_mul_left R hw
    omega
  obtain ⟨i0, hi, hz0, hz1, hz2⟩ := info_parts infoRow
  refine callsIn_of_wp_marks Try.func75 rfl h75 ?_ hro
  simp only [Try.ntmps75, List.size_toArray, List.length_cons, List.length_nil, Nat.reduceAdd, Nat.reduceSub, Array.replicate_succ, Array.replicate_zero, List.push_toArray, List.append_toArray, List.nil_append, List.cons_append]
  gi_wp2
  have bO := Boxed.new w 30 (.slice none 0 0)
  have hB0 : Below w.heap.size w (w.alloc (.cells #[.slice none 0 0] 30)) := (Below.refl _ w).alloc (Nat.le_refl _) _
  refine wpIn_rangeFunc_ownG hro h1 (gf := 76) (lb := #[.pointer (some ⟨Bs, 0, none⟩), .pointer (some ⟨Bn, 0, none⟩)]) rfl h76 (enters_of Try.func76 (by kernel_rfl) rfl)
    (chunk_stops F (n - 1) h76 hro (by omega) Bs Bn w.heap.size g wd R N cap hw hN hN2 hcap hc2 hb hb2 _ (by simp) ((hB0.cell (p := ⟨Bs, 0, none⟩) hb).trans hBs) ((hB0.cell (p := ⟨Bn, 0, none⟩) hb2).trans hBn)) belowK_t (belowK_b (by simp)) (Below.refl _ _) (fun _ => rfl)
    (fun pre W => (∃ v, Boxed W w.heap.size 30 v ∧ W.ownsRow w.heap.size 39 1 v pre.length (pre.map (hdrC g wd)) ∧ (v = .slice none 0 0 ↔ pre = [])) ∧ Below w.heap.size w W)
    (fun _ _ _ => False)
    (OwnFrom.and (Own.from (holdsRow_own w.heap.size w.heap.size 30 39 1 (fun pre => pre.length) (fun pre => pre.map (hdrC g wd)) (fun pre v => v = .slice none 0 0 ↔ pre = [])) _) (ownFrom_below (Nat.le_refl _) (by simp)))
    (fun _ _ _ _ _ hs _ _ => hs)
    ⟨⟨_, bO, World.ownsRow_nil _ _ _ _, by simp⟩, hB0⟩
    (fun x => { tmps := #[.slice none 0 0, .func (.func 76) #[] #[.pointer (some ⟨Bs, 0, none⟩), .pointer (some ⟨Bn, 0, none⟩)], .pointer (some ⟨w.heap.size, 0, none⟩), undef, .slice none 0 0, hdrC g wd x, .func (.func 76) #[] #[.pointer (some ⟨Bs, 0, none⟩), .pointer (some ⟨Bn, 0, none⟩)], hdrC g wd x, undef, undef, undef, undef, undef], defers := [] }) ?assign ?body ?done ?stop
  case assign =>
    intro l x W K hK
    gi_wp2
    exact hK
  case body =>
    rintro l pre x W ⟨⟨v, hv, hrow, hnil⟩, hB⟩ hlt
    have hc := hv.cell
    have hml : pre.length + 1 ≤ maxLen := by unfold maxLen; omega
    have hml2 : (pre.length + 1) * 24 ≤ 140737488355328 := by omega
    gi_wp2_with (gi_at_builtin; refine wpListIn_append_own _ rfl _ _ 30 rfl w.heap.size 39 i0 (.slice none 0 0) 1 24 Try.underlying30 hi hz0 hz1 hz2 rfl (by decide) _ _ _ rfl (hrow.alloc _) ⟨W.heap.size, 0, none⟩ 1 1 [hdrC g wd x] rfl rfl (cell_one_new _ _ _) (by simp [hdrC, Value.oneCell']) (by omega) (by omega) (by have := hB.size; simp; omega) ?_; intro v' w1 hown' hgrow _; obtain ⟨g', cap', rfl⟩ := ownsRow_succ hown'; obtain ⟨hv1, hv2, hr2, hk2, hb2⟩ := hv.appended (by decide) hrow hB.size (Nat.le_refl _) hown' hgrow; have hc1 := hv1.cell; have hf1 := hv1.frozen)
    exact ⟨hk2.from _, hb2, ⟨_, hv2, by simpa using hr2, by simp⟩, hB.trans hb2⟩
  case done =>
    rintro D ys W hD rfl ⟨⟨v, hv, hrow, hnil⟩, hB⟩ hK
    have hc := hv.cell
    gi_wp2
    refine ⟨by simp, .inl ⟨_, _, rfl, run_takeDeferred hK, ?_⟩⟩
    exact ⟨_, results_tmp rfl _ _ _, v, rfl, by simpa using ownsRow_putObj hrow _ hK rfl, hB.trans (belowK_b (w := w) (Nat.le_refl _) W D _ _ (by simp at hD; omega) hK rfl rfl)⟩
  case stop =>
    rintro D c pre W _ _ h _
    exact h.elim
set_option maxHeartbeats 4000000 in
theorem collect_in (F : Fence) (n : Nat) (h47 : F.fn 47) (h75 : F.fn 75) (h76 : F.fn 76) (hro : F.round = none) (hn : 4 ≤ n) (Bs Bn g wd R N cap : Nat) (hw : 1 ≤ wd) (hN : R * wd = N) (hN2 : N ≤ 1000000) (hcap : N ≤ cap) (hc2 : cap ≤ 9223372036854775807) (w : World) (hb : Bs < w.heap.size) (hb2 : Bn < w.heap.size)
    (hBs : w.cell? ⟨Bs, 0, none⟩ = some (.slice (some ⟨g, 0, none⟩) N cap)) (hBn : w.cell? ⟨Bn, 0, none⟩ = some (.int .i64 (wd : Int))) :
    CallsIn F n Try.prog 47 #[.func (.func 76) #[] #[.pointer (some ⟨Bs, 0, none⟩), .pointer (some ⟨Bn, 0, none⟩)]] w fun e W' => ∃ v, e = .returned v ∧ W'.ownsRow w.heap.size 39 1 v R ((List.range R).map (hdrC g wd)) ∧ Below w.heap.size w W' := by
  have h1 : 1 ≤ n := by omega
  refine callsIn_of_wp Try.func47 rfl h47 ?_ hro
  simp only [Try.ntmps47, List.size_toArray, List.length_cons, List.length_nil, Nat.reduceAdd, Nat.reduceSub, Array.replicate_succ, Array.replicate_zero, List.push_toArray, List.append_toArray, List.nil_append, List.cons_append]
  gi_wp2_with (gi_at_call 75; refine (appendSeq_in F (n - 1) h75 h76 hro (by omega) Bs Bn g wd R N cap hw hN hN2 hcap hc2 _ hb hb2 hBs hBn).mono ?_; rintro e w' ⟨v, rfl, hrow, hbel⟩)
  go_ret
  exact ⟨v, rfl, hrow, hbel⟩
theorem collect_C (Bs Bn g wd R N cap : Nat) (hw : 1 ≤ wd) (hN : R * wd = N) (hN2 : N ≤ 1000000) (hcap : N ≤ cap) (hc2 : cap ≤ 9223372036854775807) (w : World) (hb : Bs < w.heap.size) (hb2 : Bn < w.heap.size)
    (hBs : w.cell? ⟨Bs, 0, none⟩ = some (.slice (some ⟨g, 0, none⟩) N cap)) (hBn : w.cell? ⟨Bn, 0, none⟩ = some (.int .i64 (wd : Int))) :
    Calls Try.prog 47 #[.func (.func 76) #[] #[.pointer (some ⟨Bs, 0, none⟩), .pointer (some ⟨Bn, 0, none⟩)]] w fun e W' => ∃ v, e = .returned v ∧ W'.ownsRow w.heap.size 39 1 v R ((List.range R).map (hdrC g wd)) ∧ Below w.heap.size w W' :=
  (callsIn_wide (n := 4)).1 (collect_in Fence.wide 4 trivial trivial trivial rfl (by omega) Bs Bn g wd R N cap hw hN hN2 hcap hc2 w hb hb2 hBs hBn)
end Go.Proofs.Ytbkaedmabdgdhaa.Hd
namespace Go.Proofs.Ytbkaedmabdgdhaa.Hd
open Go Go.RowKit Go.Proofs.YtbkaedmabdgdhaaW.PrintWords Go.Proofs.YtbkaedmabdgdhaaW.PrintLast Go.Proofs.YtbkaedmabdgdhaaW.PrintMore
set_option linter.unusedVariables false
set_option linter.unusedSimpArgs false
def hdrsL (g wd R : Nat) : List (Option Addr × Nat × Nat) := (List.range R).map fun j => (some ⟨g, j * wd, none⟩, wd, wd)
def chunksL (R wd : Nat) (l : List Int) : List (List Int) := (List.range R).map fun j => (l.take ((j + 1) * wd)).drop (j * wd)
theorem hdrsL_len (g wd R : Nat) : (hdrsL g wd R).length = R := by simp [hdrsL]
theorem chunksL_len (R wd : Nat) (l : List Int) : (chunksL R wd l).length = R := by simp [chunksL]
theorem chunk_le {R wd N j : Nat} (hN : R * wd = N) (hj : j < R) : (j + 1) * wd ≤ N ∧ j * wd + wd = (j + 1) * wd := by
  refine ⟨?_, ?_⟩
  · rw [← hN]; exact Nat.mul_le_mul_right wd hj
  · rw [Nat.add_mul, Nat.one_mul]
theorem own_hdrs {w' : World} {base e g wd R : Nat} {v : Value} (h : w'.ownsRow base e 1 v R ((List.range R).map (hdrC g wd))) : Kd.R hdrK e w' base (fun k => base ≤ k) v (hdrsL g wd R) := by
  have e1 : (List.range R).map (hdrC g wd) = (hdrsL g wd R).map (fun h => Value.slice h.1 h.2.1 h.2.2) := by
    unfold hdrsL; rw [List.map_map]; rfl
  rw [e1] at h
  refine ⟨fun k hk => own_base h k hk, _, by rw [hdrsL_len]; exact h, ?_⟩
  exact reps_map (R := hdrK.M w' base _) (f := fun h : Option Addr × Nat × Nat => Value.slice h.1 h.2.1 h.2.2) (fun _ => rfl) _
theorem add_off (g o n : Nat) : Addr.add ⟨g, o, none⟩ n = ⟨g, o + n, none⟩ := by
  unfold Addr.add
  split <;> simp_all
theorem chunk_C {W : World} {g wd R N j : Nat} {l : List Int} (hL : Kd.C (Kd.int .i64) W (some ⟨g, 0, none⟩) l.length l) (hN : R * wd = l.length) (hj : j < R) : Kd.C (Kd.int .i64) W (some ⟨g, j * wd, none⟩) ((l.take ((j + 1) * wd)).drop (j * wd)).length ((l.take ((j + 1) * wd)).drop (j * wd)) := by
  obtain ⟨h1, h2, h3⟩ := hL
  obtain ⟨q1, q2⟩ := chunk_le hN hj
  refine ⟨rfl, by simp; omega, fun h0 => ⟨_, rfl, fun i x hx => ?_⟩⟩
  have hpos : 0 < l.length := by
    rcases Nat.eq_zero_or_pos l.length with q | q
    · have : l = [] := List.eq_nil_of_length_eq_zero q
      subst this; simp at h0
    · exact q
  obtain ⟨ad, e, hc⟩ := h3 hpos
  injection e with e
  subst e
  have hx2 : l[j * wd + i]? = some x := by
    rw [List.getElem?_drop] at hx
    rw [List.getElem?_take] at hx
    split at hx
    · exact hx
    · cases hx
  obtain ⟨c, hs, hr, hcell⟩ := hc _ x hx2
  refine ⟨c, hs, hr, fun k u hu => ?_⟩
  have := hcell k u hu
  rw [add_off] at this ⊢
  have hsz : (Kd.int .i64).sz = 1 := rfl
  rw [hsz] at this ⊢
  rw [show j * wd + (i * 1 + k) = 0 + ((j * wd + i) * 1 + k) by omega]
  exact this
theorem chunk_len {R wd j : Nat} {l : List Int} (hN : R * wd = l.length) (hj : j < R) : ((l.take ((j + 1) * wd)).drop (j * wd)).length = wd := by
  obtain ⟨q1, q2⟩ := chunk_le hN hj
  rw [List.length_drop, List.length_take]; omega
theorem hdrs_C {W : World} {ei g wd R : Nat} {A : Option Addr} {l : List Int} (hH : hdrK.C W A (hdrsL g wd R).length (hdrsL g wd R)) (hL : Kd.C (Kd.int .i64) W (some ⟨g, 0, none⟩) l.length l) (hN : R * wd = l.length) : Kd.C (Kd.slice ei (Kd.int .i64)) W A (chunksL R wd l).length (chunksL R wd l) := by
  obtain ⟨h1, h2, h3⟩ := hH
  have e1 : (chunksL R wd l).length = (hdrsL g wd R).length := by rw [chunksL_len, hdrsL_len]
  refine ⟨rfl, by omega, fun h0 => ?_⟩
  obtain ⟨ad, e, hc⟩ := h3 (by omega)
  refine ⟨ad, e, fun j p hp => ?_⟩
  have hj : j < R := by
    have := (List.getElem?_eq_some_iff.1 hp).1
    rwa [chunksL_len] at this
  have hp2 : p = (l.take ((j + 1) * wd)).drop (j * wd) := by
    unfold chunksL at hp
    rw [List.getElem?_map, List.getElem?_range hj] at hp
    exact (Option.some.inj hp).symm
  have hh : (hdrsL g wd R)[j]? = some (some ⟨g, j * wd, none⟩, wd, wd) := by
    unfold hdrsL
    rw [List.getElem?_map, List.getElem?_range hj]; rfl
  obtain ⟨c, hs, hr, hcell⟩ := hc j _ hh
  have hr2 : c = [.slice (some ⟨g, j * wd, none⟩) wd wd] := hr
  subst hr2
  have hcl := chunk_len hN hj
  refine ⟨[.slice (some ⟨g, j * wd, none⟩) wd wd], rfl, ?_, hcell⟩
  refine ⟨some ⟨g, j * wd, none⟩, wd, ?_, ?_, ?_⟩
  · rw [hp2, hcl]
  · rw [hp2, hcl]; exact Nat.le_refl _
  · rw [hp2]; exact chunk_C (N := R * wd) hL hN hj
theorem row_capM {α : Type} {d : Kd α} {e base : Nat} {A : Option Addr} {n c : Nat} {xs : List α} {F : Nat → Prop} {W : World} (h : (row d e base (.slice A n c) xs F).ok W) : c ≤ 9223372036854775807 := by
  obtain ⟨-, inner, ho, hr⟩ := row_R h
  rcases ho.2 with ⟨h2, _⟩ | ⟨g', cap', cur, he, hb, hh, hc, hm, hcs, htk⟩
  · injection h2 with _ _ h3; omega
  · injection he with _ _ h3
    subst h3
    exact hm
end Go.Proofs.Ytbkaedmabdgdhaa.Hd
