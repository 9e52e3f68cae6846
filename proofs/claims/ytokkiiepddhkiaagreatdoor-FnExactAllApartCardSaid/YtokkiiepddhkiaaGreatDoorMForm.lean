/- impl.form: the chunks of a row of bytes as texts, joined (turned from the worked proofs on ranges over functions). -/
import Derived.Laws.IdiomStrings
import Derived.Test.YtokkiiepddhkiaaGreatDoorPForm
import Derived.Test.YtokkiiepddhkiaaGreatDoorMStrJ
import Derived.RangeFuncBox
import Derived.RangeFuncLeaves
import Derived.RangeFuncFrom
import Derived.RangeFuncWrites
import Derived.Shelf.Abstract
import Derived.Shelf.RegionOpen
import Derived.WalkKit
import Derived.OwnWalkIn
import Derived.TacticsInMore
import Derived.LoopNIn
import Derived.LoopIn
import Derived.Maps.AppendAt
import Derived.Test.YtokkiiepddhkiaaGreatDoorProg
namespace Go.Proofs.YtokkiiepddhkiaaGreatDoor.Hd
open Go Go.RowKit Go.Shelf
set_option linter.unusedVariables false
set_option linter.unusedSimpArgs false
attribute [local go_sem] Oper.semAt_some
abbrev hdrC (g w j : Nat) : Value := .slice (some ⟨g, j * w, none⟩) w w
theorem fr_take {R k : Nat} (h : k < R) : (List.finRange R).take k ++ [⟨k, h⟩] = (List.finRange R).take (k + 1) := by
  have e : ((List.finRange R)[k]'(by simpa using h)) = ⟨k, h⟩ := by simp
  rw [List.take_succ_eq_append_getElem (by simpa using h), e]
/-- What two boxes hold they go on holding. -/
def BoxK (Bs : Nat) (ts : TypeId) (Bn : Nat) (tn : TypeId) (W W' : World) : Prop := (∀ v, Boxed W Bs ts v → Boxed W' Bs ts v) ∧ ∀ v, Boxed W Bn tn v → Boxed W' Bn tn v
theorem boxK_t {Bs ts Bn tn} {X Y Z : World} (h : BoxK Bs ts Bn tn X Y) (k : BoxK Bs ts Bn tn Y Z) : BoxK Bs ts Bn tn X Z := ⟨fun v q => k.1 v (h.1 v q), fun v q => k.2 v (h.2 v q)⟩
theorem boxed_put {W : World} {l B : Nat} {o o' : Obj} {t : TypeId} {v : Value} (h : W.heap[l]? = some o) (ho : o.isCells = false) (hb : Boxed W B t v) : Boxed (W.putObj l o') B t v :=
  hb.kept (grownBy_putObj' W l o') (fun e => by
    obtain rfl : B = l := by injection e
    rw [show W.heap[B]? = _ from hb] at h
    injection h with h
    subst h
    cases ho)
theorem boxK_b {Bs ts Bn tn} {w : World} (W : World) (l : Nat) (o o' : Obj) (_ : w.heap.size ≤ l) (h : W.heap[l]? = some o) (ho : o.isCells = false) (_ : o.isWalk = false) : BoxK Bs ts Bn tn W (W.putObj l o') := ⟨fun v q => boxed_put h ho q, fun v q => boxed_put h ho q⟩
set_option maxRecDepth 100000 in
set_option maxHeartbeats 4000000 in
theorem chunk1_in (F : Fence) (n : Nat) (h76 : F.fn 108) (hro : F.round = none) (hn : 1 ≤ n) (l Bs Bn g w R N cap : Nat) (hw : 1 ≤ w) (hN : R * w = N) (hN2 : N ≤ 1000000) (hcap : N ≤ cap) (hc2 : cap ≤ 9223372036854775807) (J Jx : List (Fin R) → World → Prop)
    (hY : ∀ pre x W, J pre W → pre.length < R → YieldAt F (n - 1) Tryz.prog l #[hdrC g w x.val] W fun e W' =>
      (e = .returned (.bool true) ∧ J (pre ++ [x]) W' ∧ BoxK Bs 49 Bn 3 W W') ∨ (e = .returned (.bool false) ∧ Jx (pre ++ [x]) W'))
    (W : World) (hJ : AbidesFrom W.heap.size J) (hBs : Boxed W Bs 49 (.slice (some ⟨g, 0, none⟩) N cap)) (hBn : Boxed W Bn 3 (.int .i64 (w : Int))) (h0 : J [] W) :
    CallsIn F n Tryz.prog 108 #[.func (.yield l) #[] #[], .pointer (some ⟨Bs, 0, none⟩), .pointer (some ⟨Bn, 0, none⟩)] W fun e W' => (∃ v, e = .returned v) ∧
      ((∃ ys, ys = List.finRange R ∧ J ys W') ∨ (∃ pre, pre <+: List.finRange R ∧ Jx pre W')) := by
  refine callsIn_of_wp Tryz.func108 rfl h76 ?_ hro
  simp only [Tryz.ntmps108, List.size_toArray, List.length_cons, List.length_nil, Nat.reduceAdd, Nat.reduceSub, Array.replicate_succ, Array.replicate_zero, List.push_toArray, List.append_toArray, List.nil_append, List.cons_append]
  gi_wp2
  gi_loopw [4] (fun i wr => ∃ k p : Nat, k ≤ R ∧ k * w = p ∧ i = .int .i64 (p : Int) ∧ J ((List.finRange R).take k) wr ∧ Boxed wr Bs 49 (.slice (some ⟨g, 0, none⟩) N cap) ∧ Boxed wr Bn 3 (.int .i64 (w : Int)))
    (fun i _ => N - (intOf i).toNat)
  case atStart => exact ⟨0, 0, Nat.zero_le _, by simp, rfl, by rw [List.take_zero]; exact h0, hBs, hBn⟩
  case round =>
    obtain ⟨k, p, hk, hp, rfl, hJs, hbs, hbn⟩ := hrel
    have hcs : wr.cell? ⟨Bs, 0, none⟩ = some (.slice (some ⟨g, 0, none⟩) N cap) := hbs.cell
    have hcn : wr.cell? ⟨Bn, 0, none⟩ = some (.int .i64 (w : Int)) := hbn.cell
    by_cases hlt : k < R
    · have hpw : p + w ≤ N := by
        have h1 : (k + 1) * w ≤ R * w := Nat.mul_le_mul_right w hlt
        rw [Nat.add_mul, Nat.one_mul] at h1
        omega
      have hJd : J ((List.finRange R).take k) wr.drew := hJ _ _ _ none hJs ⟨rfl, rfl, rfl, Nat.le_refl _, fun _ _ _ => rfl⟩ (fun r e => by cases e)
      obtain ⟨fn, tmps, assign, body, hy, hR⟩ := hY _ ⟨k, hlt⟩ wr.drew hJd (by rw [List.length_take, List.length_finRange]; omega)
      have e0 : hdrC g w (⟨k, hlt⟩ : Fin R).val = .slice (some ⟨g, p, none⟩) w w := by unfold hdrC; rw [hp]
      rw [e0] at hy
      have hmo : Tryz.prog.follows .mixedOrders = true := by kernel_rfl
      have hif : ¬ (N - p < w) := by omega
      have hmin : min (w : Int) ((N - p : Nat) : Int) = (w : Int) := by omega
      have hmw : ((p : Int) + (w : Int)).toNat - p = w := by omega
      gi_wp2
      gi_region_o
      all_goals
        gi_wp2
        refine hR.mono ?_
        rintro e W3 (⟨rfl, hJ3, hk3⟩ | ⟨rfl, hJx3⟩)
        · have hcn3 : W3.cell? ⟨Bn, 0, none⟩ = some (.int .i64 (w : Int)) := (hk3.2 _ hbn).cell
          gi_wp2
          go_roundw
          case rel => exact ⟨k + 1, p + w, by omega, by rw [Nat.add_mul, Nat.one_mul, hp], by simp, by rw [← fr_take hlt]; exact hJ3, hk3.1 _ hbs, hk3.2 _ hbn⟩
          case measure => simp [intOf]; omega
        · gi_wp2
          refine bodyPost_ret (results_none rfl _ _ _) rfl ?_
          exact ⟨⟨_, rfl⟩, .inr ⟨_, by rw [fr_take hlt]; exact List.take_prefix _ _, hJx3⟩⟩
    · obtain rfl : k = R := by omega
      have hpN : p = N := by omega
      subst hpN
      gi_wp2
      go_end0
      exact ⟨⟨_, rfl⟩, .inl ⟨_, rfl, by rw [List.take_of_length_le (by simp)] at hJs; exact hJs⟩⟩
theorem chunk_stops (F : Fence) (n : Nat) (h76 : F.fn 108) (hro : F.round = none) (hn : 1 ≤ n) (Bs Bn g w R N cap : Nat) (hw : 1 ≤ w) (hN : R * w = N) (hN2 : N ≤ 1000000) (hcap : N ≤ cap) (hc2 : cap ≤ 9223372036854775807) (W0 : World) (hBs : Boxed W0 Bs 49 (.slice (some ⟨g, 0, none⟩) N cap)) (hBn : Boxed W0 Bn 3 (.int .i64 (w : Int))) :
    SeqStopsK F n Tryz.prog 108 #[.pointer (some ⟨Bs, 0, none⟩), .pointer (some ⟨Bn, 0, none⟩)] (fun x : Fin R => #[hdrC g w x.val]) (BoxK Bs 49 Bn 3) (fun ys => ys = List.finRange R) (fun pre => pre <+: List.finRange R) R W0 := fun l J Jx W hW hJ _ hY h0 =>
  chunk1_in F n h76 hro hn l Bs Bn g w R N cap hw hN hN2 hcap hc2 J Jx hY W hJ ((hW.block _ hBs.lt).trans hBs) ((hW.block _ hBn.lt).trans hBn) h0
set_option maxHeartbeats 4000000 in
theorem chunkF_in (F : Fence) (n : Nat) (h1 : F.fn 89) (hro : F.round = none) (g N cap wd : Nat) (hw : 1 ≤ wd) (w : World) :
    CallsIn F n Tryz.prog 89 #[.slice (some ⟨g, 0, none⟩) N cap, .int .i64 (wd : Int)] w fun e W' => e = .returned (.func (.func 108) #[] #[.pointer (some ⟨w.heap.size, 0, none⟩), .pointer (some ⟨w.heap.size + 1, 0, none⟩)]) ∧ Boxed W' w.heap.size 49 (.slice (some ⟨g, 0, none⟩) N cap) ∧ Boxed W' (w.heap.size + 1) 3 (.int .i64 (wd : Int)) ∧ W'.heap.size = w.heap.size + 2 ∧ Below w.heap.size w W' := by
  refine callsIn_of_wp Tryz.func89 rfl h1 ?_ hro
  simp only [Tryz.ntmps89, List.size_toArray, List.length_cons, List.length_nil, Nat.reduceAdd, Nat.reduceSub, Array.replicate_succ, Array.replicate_zero, List.push_toArray, List.append_toArray, List.nil_append, List.cons_append]
  have hnl : ¬ ((wd : Int) < 1) := by omega
  gi_wp2
  go_ret
  have b0 : Below w.heap.size w (w.alloc (.cells #[.slice (some ⟨g, 0, none⟩) N cap] 49)) := (Below.refl _ w).alloc (Nat.le_refl _) _
  have q2 : Boxed ((w.alloc (.cells #[.slice (some ⟨g, 0, none⟩) N cap] 49)).alloc (.cells #[.int .i64 (wd : Int)] 3)) (w.alloc (.cells #[.slice (some ⟨g, 0, none⟩) N cap] 49)).heap.size 3 (.int .i64 (wd : Int)) := Boxed.new _ _ _
  rw [World.size_alloc] at q2
  exact ⟨rfl, (Boxed.new w _ _).alloc _, q2, by simp, b0.alloc (by simp) _⟩
end Go.Proofs.YtokkiiepddhkiaaGreatDoor.Hd
namespace Go.Proofs.YtokkiiepddhkiaaGreatDoor.Hd
open Go Go.RowKit Go.Shelf Go.Proofs.YtokkiiepddhkiaaGreatDoor.Pure Go.Proofs.YtokkiiepddhkiaaGreatDoorW.PrintWords Go.Proofs.YtokkiiepddhkiaaGreatDoorW.PrintLast
set_option linter.unusedVariables false
set_option linter.unusedSimpArgs false
attribute [local go_sem] Oper.semAt_some
theorem infoStr : (Tryz.prog.info? 9).map (fun i => (i.zero, i.size, i.bytes)) = some (some (.string ⟨#[]⟩), 1, 16) := by kernel_rfl
theorem chunk_text {W : World} {g wd N cap j : Nat} {b : List Int} (hbl : b.length = N) (hbb : ∀ x ∈ b, 0 ≤ x ∧ x < 256) (hj : j * wd + wd ≤ N) (hcl : ∀ j, j < N → W.cell? ⟨g, j, none⟩ = some (.int .u8 (rd b (j : Int)))) :
    (convert 49 9 (hdrC g wd j)).run Tryz.prog W = .ok (.string (chB wd b j)) W := by
  have hlen : (bsI ((b.drop (j * wd)).take wd)).length = wd := by rw [bsI_len, List.length_take, List.length_drop]; omega
  have hr := run_convert_bytes_back (P := Tryz.prog) W 49 9 5 ⟨g, j * wd, none⟩ wd (bsI ((b.drop (j * wd)).take wd)) Tryz.underlying49 Tryz.underlying5 Tryz.underlying9 (fun k hk => by
    rw [hlen] at hk
    have e4 : (⟨g, j * wd, none⟩ : Addr).add k = ⟨g, j * wd + k, none⟩ := by
      unfold Addr.add
      split
      · rename_i q; rw [q]; rfl
      · rfl
    rw [e4, hcl _ (by omega)]
    have hx : (b.drop (j * wd))[k]'(by rw [List.length_drop]; omega) = b[j * wd + k]'(by omega) := List.getElem_drop
    have e5 : (bsI ((b.drop (j * wd)).take wd))[k]'(by rw [hlen]; exact hk) = UInt8.ofNat (b[j * wd + k]'(by omega)).toNat := by
      simp [bsI]
    rw [e5, u8_back (hbb _ (List.getElem_mem _)), rd_at (by omega)])
  rw [hlen] at hr
  exact hr
theorem own_strs {W : World} {base e wd R : Nat} {b : List Int} {v : Value} (h : W.ownsRow base e 1 v R ((List.finRange R).map fun j => Value.string (chB wd b j.val))) : Kd.R Kd.string e W base (fun _ => True) v (formL wd R b) := by
  have e1 : (List.finRange R).map (fun j => Value.string (chB wd b j.val)) = (formL wd R b).map Value.string := by
    apply List.ext_getElem
    · simp [formL]
    · intro i h1 h2
      simp [formL]
  rw [e1] at h
  exact ⟨fun k hk => trivial, _, by rw [formL_len]; exact h, reps_strs _⟩
theorem ownFrom_boxed {β : Type} {B Bs : Nat} {t : TypeId} {v : Value} : OwnFrom B (fun (_ : β) W => Boxed W Bs t v) := fun s W W' row hs hg hr => hs.kept hg (fun e => by
  obtain ⟨_, o, ho, hc⟩ := hr Bs e.symm
  rw [show W.heap[Bs]? = _ from hs] at ho
  cases ho
  cases hc)
set_option maxRecDepth 100000 in
set_option maxHeartbeats 4000000 in
theorem form_in (n : Nat) (hn : 4 ≤ n) (g wd R N cap : Nat) (b : List Int) (hw : 1 ≤ wd) (hN : R * wd = N) (hN2 : N ≤ 1000) (hcap : N ≤ cap) (hc2' : cap ≤ 9223372036854775807) (hbl : b.length = N) (hbb : ∀ x ∈ b, 0 ≤ x ∧ x < 256) (w : World)
    (hcl : ∀ j, j < N → w.cell? ⟨g, j, none⟩ = some (.int .u8 (rd b (j : Int)))) :
    CallsIn Fence.wide n Tryz.prog 65 #[.slice (some ⟨g, 0, none⟩) N cap, .int .i64 (wd : Int)] w fun e W' => e = .returned (.string (formT wd R b)) ∧ Below w.heap.size w W' := by
  have h1n : 1 ≤ n := by omega
  have hRN : R ≤ 1000 := by
    have := Nat.mul_le_mul_left R hw
    omega
  have hF1 : Fence.wide.fn 89 := trivial
  have hF2 : Fence.wide.fn 84 := trivial
  obtain ⟨i0, hi, hz0, hz1, hz2⟩ := info_parts infoStr
  refine callsIn_of_wp_marks Tryz.func65 rfl trivial ?_ rfl
  simp only [Tryz.ntmps65, List.size_toArray, List.length_cons, List.length_nil, Nat.reduceAdd, Nat.reduceSub, Array.replicate_succ, Array.replicate_zero, List.push_toArray, List.append_toArray, List.nil_append, List.cons_append]
  gi_wp2_with (gi_at_call 89; refine (chunkF_in Fence.wide (n - 1) trivial rfl g N cap wd hw _).mono ?_; rintro e w' ⟨rfl, hc1, hc2, hsz, hbel⟩)
  simp only [World.size_alloc] at hc1 hc2 hsz hbel
  have q1 := Boxed.new (w.alloc (.cells #[] 9)) 24 (.slice (some ⟨w.heap.size, 0, none⟩) 0 0)
  rw [World.size_alloc] at q1
  have hbx : Boxed w' (w.heap.size + 1) 24 (.slice (some ⟨w.heap.size, 0, none⟩) 0 0) := (hbel.block _ (by omega)).trans q1
  have hlit : w'.heap[w.heap.size]? = some (.cells #[] 9 (0, 0)) := (hbel.block _ (by omega)).trans ((Below.heap_alloc _ _ _ (by simp)).trans (World.alloc_heap_new w _))
  have hrow0 : w'.ownsRow w.heap.size 9 1 (.slice (some ⟨w.heap.size, 0, none⟩) 0 0) 0 [] := ⟨rfl, .inr ⟨_, 0, #[], rfl, Nat.le_refl _, hlit, Nat.le_refl _, Nat.zero_le _, rfl, rfl⟩⟩
  have hB0 : Below w.heap.size w w' := (((Below.refl _ w).alloc (Nat.le_refl _) _).alloc (by simp) _).trans ⟨hbel.os, hbel.tape, hbel.output, hbel.size, fun k hk => hbel.block k (by omega)⟩
  refine wpIn_rangeFunc_ownG rfl h1n (gf := 108) (lb := #[.pointer (some ⟨w.heap.size + 1 + 1, 0, none⟩), .pointer (some ⟨w.heap.size + 1 + 1 + 1, 0, none⟩)]) rfl trivial (enters_of Tryz.func108 (by kernel_rfl) rfl)
    (chunk_stops Fence.wide (n - 1) trivial rfl (by omega) _ _ g wd R N cap hw hN (by omega) hcap hc2' w' hc1 hc2) boxK_t boxK_b (Below.refl _ _) (fun _ => rfl)
    (fun (pre : List (Fin R)) W => ((∃ v, Boxed W (w.heap.size + 1) 24 v ∧ W.ownsRow w.heap.size 9 1 v pre.length (pre.map fun j : Fin R => Value.string (chB wd b j.val)) ∧ True) ∧ Below w.heap.size w W) ∧ Boxed W (w.heap.size + 1 + 1) 49 (.slice (some ⟨g, 0, none⟩) N cap) ∧ Boxed W (w.heap.size + 1 + 1 + 1) 3 (.int .i64 (wd : Int)))
    (fun _ _ _ => False)
    (OwnFrom.and (OwnFrom.and (Own.from (holdsRow_own w.heap.size (w.heap.size + 1) 24 9 1 (fun pre : List (Fin R) => pre.length) (fun pre : List (Fin R) => pre.map fun j : Fin R => Value.string (chB wd b j.val)) (fun _ _ => True)) _) (ownFrom_below (Nat.le_refl _) (by omega))) (OwnFrom.and ownFrom_boxed ownFrom_boxed))
    (fun _ _ _ _ _ hs _ _ => hs)
    ⟨⟨⟨_, hbx, hrow0, trivial⟩, hB0⟩, hc1, hc2⟩
    (fun x => { tmps := #[.slice (some ⟨g, 0, none⟩) N cap, .int .i64 (wd : Int), undef, undef, .string ⟨#[]⟩, .pointer (some ⟨w.heap.size + 1, 0, none⟩), hdrC g wd x.val, .slice (some ⟨w.heap.size, 0, none⟩) 0 0, .slice (some ⟨g, 0, none⟩) N cap, .int .i64 (wd : Int), .func (.func 108) #[] #[.pointer (some ⟨w.heap.size + 1 + 1, 0, none⟩), .pointer (some ⟨w.heap.size + 1 + 1 + 1, 0, none⟩)], hdrC g wd x.val, undef, undef, undef, undef, undef, undef, undef], defers := [] }) ?assign ?body ?done ?stop
  case assign =>
    intro l x W K hK
    gi_wp2
    exact hK
  case body =>
    rintro l pre x W ⟨⟨⟨v, hv, hrow, -⟩, hB⟩, hbs, hbn⟩ hlt
    have hc := hv.cell
    have hxj : x.val * wd + wd ≤ N := by
      have := Nat.mul_le_mul_right wd (show x.val + 1 ≤ R from x.isLt)
      rw [Nat.add_mul, Nat.one_mul] at this
      omega
    have hcl2 : ∀ j, j < N → W.cell? ⟨g, j, none⟩ = some (.int .u8 (rd b (j : Int))) := fun j hj => (hB.cell (World.block_lt_of_cell? _ _ (hcl j hj))).trans (hcl j hj)
    have hcv := chunk_text (W := W) (cap := cap) hbl hbb hxj hcl2
    have hml : pre.length + 1 ≤ maxLen := by unfold maxLen; omega
    have hml2 : (pre.length + 1) * 16 ≤ 140737488355328 := by omega
    gi_wp2_with (gi_at_builtin; refine wpListIn_append_own _ rfl _ _ 24 rfl w.heap.size 9 i0 (.string ⟨#[]⟩) 1 16 Tryz.underlying24 hi hz0 hz1 hz2 rfl (by decide) _ _ _ rfl (hrow.alloc _) ⟨W.heap.size, 0, none⟩ 1 1 [.string (chB wd b x.val)] rfl rfl (cell_one_new _ _ _) (by simp [Value.oneCell']) (by omega) (by omega) (by have := hB.size; simp; omega) ?_; intro v' w1 hown' hgrow _; obtain ⟨g', cap', rfl⟩ := ownsRow_succ hown'; obtain ⟨hv1, hv2, hr2, hk2, hb2⟩ := hv.appended (by decide) hrow hB.size (Nat.le_succ _) hown' hgrow; have hc1 := hv1.cell; have hf1 := hv1.frozen)
    have hks : ∀ u, Boxed W (w.heap.size + 1 + 1) 49 u → Boxed _ (w.heap.size + 1 + 1) 49 u := fun u q => ((q.alloc _).kept hgrow (q.not_row (by decide) hrow)).kept (grownBy_setCell' w1 (w.heap.size + 1) (.slice (some ⟨g', 0, none⟩) (pre.length + 1) cap')) (fun e => by injection e with e; omega)
    have hkn : ∀ u, Boxed W (w.heap.size + 1 + 1 + 1) 3 u → Boxed _ (w.heap.size + 1 + 1 + 1) 3 u := fun u q => ((q.alloc _).kept hgrow (q.not_row (by decide) hrow)).kept (grownBy_setCell' w1 (w.heap.size + 1) (.slice (some ⟨g', 0, none⟩) (pre.length + 1) cap')) (fun e => by injection e with e; omega)
    exact ⟨hk2.from _, ⟨hks, hkn⟩, ⟨⟨_, hv2, by simpa using hr2, trivial⟩, hB.trans hb2⟩, hks _ hbs, hkn _ hbn⟩
  case done =>
    rintro D ys W hD rfl ⟨⟨⟨v, hv, hrow, -⟩, hBW⟩, hbs, hbn⟩ hK
    have hc := hv.cell
    rw [List.length_finRange] at hrow
    obtain ⟨A0, c0, rfl, hcc, hCC⟩ := Kd.R_reads (own_strs hrow)
    gi_wp2_with (gi_at_call 84; refine ((callsIn_wide (n := n - 1)).2 (strings_Join.calls A0 c0 (formL wd R b) ⟨#[47]⟩ (formT wd R b) W hCC hcc (join_form (by omega) hRN))).mono ?_; rintro e w3 ⟨rfl, hb3⟩)
    have hK3 := (hb3.block D (Array.getElem?_eq_some_iff.1 hK).1).trans hK
    refine ⟨by simp, .inl ⟨_, _, rfl, run_takeDeferred hK3, ?_⟩⟩
    exact ⟨_, results_tmp rfl _ _ _, rfl, (hBW.trans ⟨hb3.os, hb3.tape, hb3.output, hb3.size, fun k hk => hb3.block k (by have := hBW.size; omega)⟩).trans (belowK_b (w := w) (Nat.le_refl _) w3 D _ _ (by omega) hK3 rfl rfl)⟩
  case stop =>
    rintro D c pre W _ _ h _
    exact h.elim
end Go.Proofs.YtokkiiepddhkiaaGreatDoor.Hd
