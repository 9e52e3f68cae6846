/- impl.form: the chunks of a row of bytes as texts, joined (turned from the worked proofs on ranges over functions). -/
import Derived.Laws.IdiomStrings
import Derived.Test.YtokkiiepddhkiaaDoorMFormA
import Derived.Test.YtokkiiepddhkiaaDoorPForm
import Derived.Test.YtokkiiepddhkiaaDoorMStrJ
namespace Go.Proofs.YtokkiiepddhkiaaDoor.Hd
open Go Go.RowKit Go.Shelf Go.Proofs.YtokkiiepddhkiaaDoor.Pure Go.Proofs.YtokkiiepddhkiaaDoorW.PrintWords Go.Proofs.YtokkiiepddhkiaaDoorW.PrintLast
set_option linter.unusedVariables false
set_option linter.unusedSimpArgs false
attribute [local go_sem] Oper.semAt_some
theorem infoStr : (Tryd.prog.info? 9).map (fun i => (i.zero, i.size, i.bytes)) = some (some (.string ⟨#[]⟩), 1, 16) := by kernel_rfl
theorem chunk_text {W : World} {g wd N cap j : Nat} {b : List Int} (hbl : b.length = N) (hbb : ∀ x ∈ b, 0 ≤ x ∧ x < 256) (hj : j * wd + wd ≤ N) (hcl : ∀ j, j < N → W.cell? ⟨g, j, none⟩ = some (.int .u8 (rd b (j : Int)))) :
    (convert 42 9 (hdrC g wd j)).run Tryd.prog W = .ok (.string (chB wd b j)) W := by
  have hlen : (bsI ((b.drop (j * wd)).take wd)).length = wd := by rw [bsI_len, List.length_take, List.length_drop]; omega
  have hr := run_convert_bytes_back (P := Tryd.prog) W 42 9 5 ⟨g, j * wd, none⟩ wd (bsI ((b.drop (j * wd)).take wd)) Tryd.underlying42 Tryd.underlying5 Tryd.underlying9 (fun k hk => by
    rw [hlen] at hk
    have e4 : (⟨g, j * wd, none⟩ : Addr).add k = ⟨g, j * wd + k, none⟩ := by
      unfold Addr.add
      split
      · rename_i q; rw [q]; rfl
      · rfl
    rw [e4, hcl _ (by omega)]
    have hx : (b.drop (j * wd))[k]'(by rw [List.length_drop]; omega) = b[j * wd + k]'(by omega) := List.getElem_drop
    have e5 : (bsI ((b.drop (j * wd)).take wd))[k]'(by rw [hlen]; exact hk) = UInt8.ofNat (b[j * wd + k]'(by omega)).toNat := by
      simp [bsI]
    rw [e5, u8_back (hbb _ (List.getElem_mem _)), rd_at (by omega)])
  rw [hlen] at hr
  exact hr
theorem own_strs {W : World} {base e wd R : Nat} {b : List Int} {v : Value} (h : W.ownsRow base e 1 v R ((List.finRange R).map fun j => Value.string (chB wd b j.val))) : Kd.R Kd.string e W base (fun _ => True) v (formL wd R b) := by
  have e1 : (List.finRange R).map (fun j => Value.string (chB wd b j.val)) = (formL wd R b).map Value.string := by
    apply List.ext_getElem
    · simp [formL]
    · intro i h1 h2
      simp [formL]
  rw [e1] at h
  exact ⟨fun k hk => trivial, _, by rw [formL_len]; exact h, reps_strs _⟩
theorem ownFrom_boxed {β : Type} {B Bs : Nat} {t : TypeId} {v : Value} : OwnFrom B (fun (_ : β) W => Boxed W Bs t v) := fun s W W' row hs hg hr => hs.kept hg (fun e => by
  obtain ⟨_, o, ho, hc⟩ := hr Bs e.symm
  rw [show W.heap[Bs]? = _ from hs] at ho
  cases ho
  cases hc)
set_option maxRecDepth 100000 in
set_option maxHeartbeats 4000000 in
theorem form_in (n : Nat) (hn : 4 ≤ n) (g wd R N cap : Nat) (b : List Int) (hw : 1 ≤ wd) (hN : R * wd = N) (hN2 : N ≤ 1000) (hcap : N ≤ cap) (hc2' : cap ≤ 9223372036854775807) (hbl : b.length = N) (hbb : ∀ x ∈ b, 0 ≤ x ∧ x < 256) (w : World)
    (hcl : ∀ j, j < N → w.cell? ⟨g, j, none⟩ = some (.int .u8 (rd b (j : Int)))) :
    CallsIn Fence.wide n Tryd.prog 48 #[.slice (some ⟨g, 0, none⟩) N cap, .int .i64 (wd : Int)] w fun e W' => e = .returned (.string (formT wd R b)) ∧ Below w.heap.size w W' := by
  have h1n : 1 ≤ n := by omega
  have hRN : R ≤ 1000 := by
    have := Nat.mul_le_mul_left R hw
    omega
  have hF1 : Fence.wide.fn 68 := trivial
  have hF2 : Fence.wide.fn 20 := trivial
  obtain ⟨i0, hi, hz0, hz1, hz2⟩ := info_parts infoStr
  refine callsIn_of_wp_marks Tryd.func48 rfl trivial ?_ rfl
  simp only [Tryd.ntmps48, List.size_toArray, List.length_cons, List.length_nil, Nat.reduceAdd, Nat.reduceSub, Array.replicate_succ, Array.replicate_zero, List.push_toArray, List.append_toArray, List.nil_append, List.cons_append]
  gi_wp2_with (gi_at_call 68; refine (chunkF_in Fence.wide (n - 1) trivial rfl g N cap wd hw _).mono ?_; rintro e w' ⟨rfl, hc1, hc2, hsz, hbel⟩)
  simp only [World.size_alloc] at hc1 hc2 hsz hbel
  have q1 := Boxed.new (w.alloc (.cells #[] 9)) 40 (.slice (some ⟨w.heap.size, 0, none⟩) 0 0)
  rw [World.size_alloc] at q1
  have hbx : Boxed w' (w.heap.size + 1) 40 (.slice (some ⟨w.heap.size, 0, none⟩) 0 0) := (hbel.block _ (by omega)).trans q1
  have hlit : w'.heap[w.heap.size]? = some (.cells #[] 9 (0, 0)) := (hbel.block _ (by omega)).trans ((Below.heap_alloc _ _ _ (by simp)).trans (World.alloc_heap_new w _))
  have hrow0 : w'.ownsRow w.heap.size 9 1 (.slice (some ⟨w.heap.size, 0, none⟩) 0 0) 0 [] := ⟨rfl, .inr ⟨_, 0, #[], rfl, Nat.le_refl _, hlit, Nat.le_refl _, Nat.zero_le _, rfl, rfl⟩⟩
  have hB0 : Below w.heap.size w w' := (((Below.refl _ w).alloc (Nat.le_refl _) _).alloc (by simp) _).trans ⟨hbel.os, hbel.tape, hbel.output, hbel.size, fun k hk => hbel.block k (by omega)⟩
  refine wpIn_rangeFunc_ownG rfl h1n (gf := 89) (lb := #[.pointer (some ⟨w.heap.size + 1 + 1, 0, none⟩), .pointer (some ⟨w.heap.size + 1 + 1 + 1, 0, none⟩)]) rfl trivial (enters_of Tryd.func89 (by kernel_rfl) rfl)
    (chunk_stops Fence.wide (n - 1) trivial rfl (by omega) _ _ g wd R N cap hw hN (by omega) hcap hc2' w' hc1 hc2) boxK_t boxK_b (Below.refl _ _) (fun _ => rfl)
    (fun (pre : List (Fin R)) W => ((∃ v, Boxed W (w.heap.size + 1) 40 v ∧ W.ownsRow w.heap.size 9 1 v pre.length (pre.map fun j : Fin R => Value.string (chB wd b j.val)) ∧ True) ∧ Below w.heap.size w W) ∧ Boxed W (w.heap.size + 1 + 1) 42 (.slice (some ⟨g, 0, none⟩) N cap) ∧ Boxed W (w.heap.size + 1 + 1 + 1) 3 (.int .i64 (wd : Int)))
    (fun _ _ _ => False)
    (OwnFrom.and (OwnFrom.and (Own.from (holdsRow_own w.heap.size (w.heap.size + 1) 40 9 1 (fun pre : List (Fin R) => pre.length) (fun pre : List (Fin R) => pre.map fun j : Fin R => Value.string (chB wd b j.val)) (fun _ _ => True)) _) (ownFrom_below (Nat.le_refl _) (by omega))) (OwnFrom.and ownFrom_boxed ownFrom_boxed))
    (fun _ _ _ _ _ hs _ _ => hs)
    ⟨⟨⟨_, hbx, hrow0, trivial⟩, hB0⟩, hc1, hc2⟩
    (fun x => { tmps := #[.slice (some ⟨g, 0, none⟩) N cap, .int .i64 (wd : Int), undef, undef, .string ⟨#[]⟩, .pointer (some ⟨w.heap.size + 1, 0, none⟩), hdrC g wd x.val, .slice (some ⟨w.heap.size, 0, none⟩) 0 0, .slice (some ⟨g, 0, none⟩) N cap, .int .i64 (wd : Int), .func (.func 89) #[] #[.pointer (some ⟨w.heap.size + 1 + 1, 0, none⟩), .pointer (some ⟨w.heap.size + 1 + 1 + 1, 0, none⟩)], hdrC g wd x.val, undef, undef, undef, undef, undef, undef, undef], defers := [] }) ?assign ?body ?done ?stop
  case assign =>
    intro l x W K hK
    gi_wp2
    exact hK
  case body =>
    rintro l pre x W ⟨⟨⟨v, hv, hrow, -⟩, hB⟩, hbs, hbn⟩ hlt
    have hc := hv.cell
    have hxj : x.val * wd + wd ≤ N := by
      have := Nat.mul_le_mul_right wd (show x.val + 1 ≤ R from x.isLt)
      rw [Nat.add_mul, Nat.one_mul] at this
      omega
    have hcl2 : ∀ j, j < N → W.cell? ⟨g, j, none⟩ = some (.int .u8 (rd b (j : Int))) := fun j hj => (hB.cell (World.block_lt_of_cell? _ _ (hcl j hj))).trans (hcl j hj)
    have hcv := chunk_text (W := W) (cap := cap) hbl hbb hxj hcl2
    have hml : pre.length + 1 ≤ maxLen := by unfold maxLen; omega
    have hml2 : (pre.length + 1) * 16 ≤ 140737488355328 := by omega
    gi_wp2_with (gi_at_builtin; refine wpListIn_append_own _ rfl _ _ 40 rfl w.heap.size 9 i0 (.string ⟨#[]⟩) 1 16 Tryd.underlying40 hi hz0 hz1 hz2 rfl (by decide) _ _ _ rfl (hrow.alloc _) ⟨W.heap.size, 0, none⟩ 1 1 [.string (chB wd b x.val)] rfl rfl (cell_one_new _ _ _) (by simp [Value.oneCell']) (by omega) (by omega) (by have := hB.size; simp; omega) ?_; intro v' w1 hown' hgrow _; obtain ⟨g', cap', rfl⟩ := ownsRow_succ hown'; obtain ⟨hv1, hv2, hr2, hk2, hb2⟩ := hv.appended (by decide) hrow hB.size (Nat.le_succ _) hown' hgrow; have hc1 := hv1.cell; have hf1 := hv1.frozen)
    have hks : ∀ u, Boxed W (w.heap.size + 1 + 1) 42 u → Boxed _ (w.heap.size + 1 + 1) 42 u := fun u q => ((q.alloc _).kept hgrow (q.not_row (by decide) hrow)).kept (grownBy_setCell' w1 (w.heap.size + 1) (.slice (some ⟨g', 0, none⟩) (pre.length + 1) cap')) (fun e => by injection e with e; omega)
    have hkn : ∀ u, Boxed W (w.heap.size + 1 + 1 + 1) 3 u → Boxed _ (w.heap.size + 1 + 1 + 1) 3 u := fun u q => ((q.alloc _).kept hgrow (q.not_row (by decide) hrow)).kept (grownBy_setCell' w1 (w.heap.size + 1) (.slice (some ⟨g', 0, none⟩) (pre.length + 1) cap')) (fun e => by injection e with e; omega)
    exact ⟨hk2.from _, ⟨hks, hkn⟩, ⟨⟨_, hv2, by simpa using hr2, trivial⟩, hB.trans hb2⟩, hks _ hbs, hkn _ hbn⟩
  case done =>
    rintro D ys W hD rfl ⟨⟨⟨v, hv, hrow, -⟩, hBW⟩, hbs, hbn⟩ hK
    have hc := hv.cell
    rw [List.length_finRange] at hrow
    obtain ⟨A0, c0, rfl, hcc, hCC⟩ := Kd.R_reads (own_strs hrow)
    gi_wp2_with (gi_at_call 20; refine ((callsIn_wide (n := n - 1)).2 (strings_Join.calls A0 c0 (formL wd R b) ⟨#[47]⟩ (formT wd R b) W hCC hcc (join_form (by omega) hRN))).mono ?_; rintro e w3 ⟨rfl, hb3⟩)
    have hK3 := (hb3.block D (Array.getElem?_eq_some_iff.1 hK).1).trans hK
    refine ⟨by simp, .inl ⟨_, _, rfl, run_takeDeferred hK3, ?_⟩⟩
    exact ⟨_, results_tmp rfl _ _ _, rfl, (hBW.trans ⟨hb3.os, hb3.tape, hb3.output, hb3.size, fun k hk => hb3.block k (by have := hBW.size; omega)⟩).trans (belowK_b (w := w) (Nat.le_refl _) w3 D _ _ (by omega) hK3 rfl rfl)⟩
  case stop =>
    rintro D c pre W _ _ h _
    exact h.elim
end Go.Proofs.YtokkiiepddhkiaaDoor.Hd
