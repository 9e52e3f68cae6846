/- impl.TurnTable on a table, by its callees' contracts. -/
import Derived.Test.YtokkiiepddhkiaaDoorMTurnA
namespace Go.Proofs.YtokkiiepddhkiaaDoor.Hd
open Go Go.RowKit Go.Shelf
set_option linter.unusedVariables false
set_option linter.unusedSimpArgs false
attribute [local go_sem] Oper.semAt_some
/-- The first k bytes of the turned row y. -/
def colV (rows : List ByteArray) (R y : Nat) (pre : List (Fin R)) : List Value := pre.map fun x => .int .u8 (bB (rows[R - 1 - x.val]?.getD ByteArray.empty) y)
def colT (rows : List ByteArray) (R y : Nat) : ByteArray := ⟨((List.finRange R).map fun x => (rows[R - 1 - x.val]?.getD ByteArray.empty).data.toList[y]?.getD 0).toArray⟩
def turnT (rows : List ByteArray) (R wd : Nat) : List ByteArray := (List.range wd).map (colT rows R)
theorem opIn_append_own {F : Fence} {n : Nat} {P : Program} (w : World) {o : Oper} {a : Act} {K : Act → World → Prop} {Q : Exit → Act → World → Prop}
    (s x : Operand) (t : TypeId) (hop : o.op = Op.call { callee := Callee.builtin Builtin.append, args := #[s, x], argTypes := #[t, t] })
    (base : Nat) (e : TypeId) (i : TypeInfo) (z : Value) (size bytes : Nat) (h1 : P.underlying t = some (.slice e)) (h2 : P.info? e = some i) (h3 : i.zero = some z) (h4 : i.size = size) (h5 : i.bytes = bytes) (h6 : z.cells.size = size) (h7 : 0 < size)
    (v : Value) (k : Nat) (xs : List Value) (hs : a.eval s = v) (hown : w.ownsRow base e size v k xs) (ad : Addr) (m c : Nat) (news : List Value) (hx : a.eval x = .slice (some ad) m c) (hn : news.length = m * size)
    (hc : ∀ j u, news[j]? = some u → w.cell? (ad.add j) = some u) (h1c : ∀ u ∈ news, u.oneCell' = true) (b1 : k + m ≤ maxLen) (b2 : (k + m) * bytes ≤ 140737488355328) (b3 : base ≤ w.heap.size)
    (hK : ∀ v' w', w'.ownsRow base e size v' (k + m) (xs ++ news) → w.grownBy w' v.ownBlock → K (a.put o.dst v') w') : Oper.wpIn F n P o a w K Q := by
  obtain ⟨v', w', hrun, r1, r2, r3⟩ := run_append_own (P := P) w base t o.type e i z size bytes h1 h2 h3 h4 h5 h6 h7 v k xs hown ad m c news hn hc h1c b1 b2 b3
  unfold Oper.wpIn
  refine ⟨?_, ?_⟩
  · simp [Oper.about, hop, resolve, Target.leads, Sem.run_pure]
  · rw [Oper.semAt_plain F _ _ (by rw [hop]; intro c hc'; cases hc')]
    simp [execOp, hop, resolve, invoke, builtin, hs, hx, hrun, Result.andThen]
    exact hK v' w' r1 r2
set_option maxRecDepth 100000 in
set_option maxHeartbeats 8000000 in
theorem turn_body (n : Nat) (hn : 6 ≤ n) (s : ByteArray) (rows : List ByteArray) (R wd : Nat) (hR : 1 ≤ R) (hR2 : R ≤ 30) (hw : 1 ≤ wd) (hw2 : wd ≤ 30) (hrl : rows.length = R) (hrw : ∀ r ∈ rows, r.size = wd) (res : ByteArray) (w : World)
    (hI : ∀ W, Below w.heap.size w W → CallsIn Fence.wide (n - 1) Tryd.prog 17 #[.string s] W fun e W' => e = .returned (.bool true) ∧ Below W.heap.size W W')
    (hS : ∀ W, Below w.heap.size w W → CallsIn Fence.wide (n - 1) Tryd.prog 18 #[.string s, .string ⟨#[47]⟩] W fun e W' => ∃ g cap cur, e = .returned (.slice (some ⟨g, 0, none⟩) R cap) ∧ W.heap.size ≤ g ∧ W'.heap[g]? = some (.cells cur 9 (0, 0)) ∧ (∀ j, j < R → cur[j]? = some (.string (rows[j]?.getD ByteArray.empty))) ∧ Below W.heap.size W W')
    (hJ : ∀ W v, Below w.heap.size w W → W.ownsRow w.heap.size 9 1 v wd ((turnT rows R wd).map Value.string) → CallsIn Fence.wide (n - 1) Tryd.prog 20 #[v, .string ⟨#[47]⟩] W fun e W' => e = .returned (.string res) ∧ Below W.heap.size W W') :
    CallsIn Fence.wide n Tryd.prog 7 #[.string s] w fun e W' => e = .returned (.tuple #[.string res, .bool true]) ∧ Below w.heap.size w W' := by
  have h1n : 1 ≤ n := by omega
  have hF1 : Fence.wide.fn 17 := trivial
  have hF2 : Fence.wide.fn 18 := trivial
  have hF3 : Fence.wide.fn 20 := trivial
  have hF4 : Fence.wide.fn 19 := trivial
  refine callsIn_of_wp_marks Tryd.func7 rfl trivial ?_ rfl
  simp only [Tryd.ntmps7, List.size_toArray, List.length_cons, List.length_nil, Nat.reduceAdd, Nat.reduceSub, Array.replicate_succ, Array.replicate_zero, List.push_toArray, List.append_toArray, List.nil_append, List.cons_append]
  gi_wp2_with (first | (gi_at_call 17; refine (hI _ (Below.refl _ _)).mono ?_; rintro e w1 ⟨rfl, hb1⟩) | (gi_at_call 18; refine (hS _ hb1).mono ?_; rintro e w2 ⟨g, cap, cur, rfl, hg1, hg2, hg3, hb2⟩; obtain ⟨r0, hr0, hs0⟩ : ∃ r0, rows[0]?.getD ByteArray.empty = r0 ∧ r0.size = wd := ⟨_, rfl, by rw [List.getElem?_eq_getElem (by omega)]; exact hrw _ (List.getElem_mem _)⟩; have hg5 : (w2.alloc (.cells #[] 9)).cell? ⟨g, 0, none⟩ = some (.string r0) := by { have q1 := (Below.heap_alloc w2 (.cells #[] 9) _ (Array.getElem?_eq_some_iff.1 hg2).1).trans hg2; have q2 := hg3 0 (by omega); rw [hr0] at q2; unfold World.cell?; rw [q1]; simpa using q2 }))
  have hgl : g < w2.heap.size := (Array.getElem?_eq_some_iff.1 hg2).1
  have hw1 : w.heap.size ≤ w1.heap.size := hb1.size
  have hw2s : w1.heap.size ≤ w2.heap.size := hb2.size
  have hB2 : Below w.heap.size w (w2.alloc (.cells #[] 9)) := (hb1.trans ⟨hb2.os, hb2.tape, hb2.output, hb2.size, fun k hk => hb2.block k (by omega)⟩).alloc (by omega) _
  refine wpIn_loop (fun a' W => ∃ (y g1 cap1 : Nat) (Ds : List Nat) (u6 u7 u8 u9 u21 u22 u23 u24 u25 u26 u27 u28 u29 u30 u31 u32 u33 u34 u35 u36 u37 u38 u39 u40 u41 : Value), a' = { tmps := #[.string s, undef, .string ⟨#[]⟩, .bool false, .slice (some ⟨g, 0, none⟩) R cap, .slice (some ⟨g1, 0, none⟩) y cap1, u6, u7, u8, u9, .string s, .bool true, .bool false, .string s, .slice (some ⟨g, 0, none⟩) R cap, .slice (some ⟨w2.heap.size, 0, none⟩) 0 0, .slice (some ⟨g, 0, none⟩) R cap, .pointer (some ⟨g, 0, none⟩), .string r0, .int .i64 (wd : Int), .int .i64 (y : Int), u21, u22, u23, u24, u25, u26, u27, u28, u29, u30, u31, u32, u33, u34, u35, u36, u37, u38, u39, u40, u41], defers := marksD Ds } ∧ y ≤ wd ∧ W.ownsRow w2.heap.size 9 1 (.slice (some ⟨g1, 0, none⟩) y cap1) y ((turnT rows R y).map Value.string) ∧ W.heap[g]? = some (.cells cur 9 (0, 0)) ∧ Below w.heap.size w W ∧ Ds.Nodup ∧ ∀ D ∈ Ds, w.heap.size ≤ D ∧ W.heap[D]? = some (.deferred (some []))) (fun a' _ => wd - (intOf (a'.tmps.getD 20 undef)).toNat) ?_ ?_
  · refine ⟨0, w2.heap.size, 0, [], _, _, _, _, _, _, _, _, _, _, _, _, _, _, _, _, _, _, _, _, _, _, _, _, _, rfl, Nat.zero_le _, ⟨rfl, .inr ⟨_, 0, #[], rfl, Nat.le_refl _, World.alloc_heap_new w2 _, Nat.le_refl _, Nat.zero_le _, rfl, rfl⟩⟩, (Below.heap_alloc w2 _ _ hgl).trans hg2, hB2, List.nodup_nil, fun D hD => by cases hD⟩
  rintro a W ⟨y, g1, cap1, Ds, u6, u7, u8, u9, u21, u22, u23, u24, u25, u26, u27, u28, u29, u30, u31, u32, u33, u34, u35, u36, u37, u38, u39, u40, u41, rfl, hy, hrow, hgW, hB, hnd, hD⟩
  by_cases hlt : y < wd
  case neg =>
    obtain rfl : y = wd := by omega
    have hlt2 : ¬ ((y : Int) < (y : Int)) := by omega
    have hrowJ : W.ownsRow w.heap.size 9 1 (.slice (some ⟨g1, 0, none⟩) y cap1) y ((turnT rows R y).map Value.string) := ⟨hrow.1, by
      rcases hrow.2 with q | ⟨g', c', cu, e, h, r⟩
      · exact .inl q
      · exact .inr ⟨g', c', cu, e, by omega, r⟩⟩
    gi_wp2_with (gi_at_call 20; refine (hJ W _ hB hrowJ).mono ?_; rintro e w4 ⟨rfl, hb4⟩)
    refine leaves_marks (w := w) Ds w4 hnd (fun D q => ⟨(hD D q).1, (hb4.block D (Array.getElem?_eq_some_iff.1 (hD D q).2).1).trans (hD D q).2⟩) (fun W' hW' => ?_)
    exact ⟨_, results_tmp2 rfl _ _ _, rfl, (hB.trans ⟨hb4.os, hb4.tape, hb4.output, hb4.size, fun k hk => hb4.block k (by have := hB.size; omega)⟩).trans hW'⟩
  have hlt2 : (y : Int) < (wd : Int) := by omega
  gi_wp2_with (gi_at_call 19; refine (backF_in Fence.wide (n - 1) trivial rfl g R cap _).mono ?_; rintro e w3 ⟨rfl, hbx, hsz, hb3⟩)
  simp only [World.size_alloc] at hbx hsz hb3
  obtain ⟨cur1, hg1b, hg1a, hcur1, hcap1, hcap2, htk⟩ : ∃ cur1, w2.heap.size ≤ g1 ∧ W.heap[g1]? = some (.cells cur1 9 (0, 0)) ∧ cur1.size = cap1 * 1 ∧ y ≤ cap1 ∧ cap1 ≤ maxLen ∧ cur1.toList.take (y * 1) = (turnT rows R y).map Value.string := by
    rcases hrow.2 with ⟨q, _⟩ | ⟨g', cap', cur', q, hb', hh', hc', hm', hcs', htk'⟩
    · cases q
    · injection q with q1 q2 q3
      injection q1 with q1
      injection q1 with q1
      subst q1
      subst q3
      exact ⟨cur', hb', hh', hcs', hc', hm', htk'⟩
  have hgl1 : g1 < W.heap.size := (Array.getElem?_eq_some_iff.1 hg1a).1
  have hglw : g < W.heap.size := (Array.getElem?_eq_some_iff.1 hgW).1
  have hwW := hB.size
  have hDl : ∀ D ∈ Ds, D < W.heap.size := fun D q => (Array.getElem?_eq_some_iff.1 (hD D q).2).1
  have qx := (((Boxed.new W 3 (.int .i64 (y : Int))).alloc (.cells #[] 5)).alloc (.cells #[.slice (some ⟨W.heap.size + 1, 0, none⟩) 0 0] 42))
  have ql : (((W.alloc (.cells #[.int .i64 (y : Int)] 3)).alloc (.cells #[] 5)).alloc (.cells #[.slice (some ⟨W.heap.size + 1, 0, none⟩) 0 0] 42)).heap[W.heap.size + 1]? = some (.cells #[] 5 (0, 0)) := by
    have q := World.alloc_heap_new (W.alloc (.cells #[.int .i64 (y : Int)] 3)) (.cells #[] 5)
    rw [World.size_alloc] at q
    exact (Below.heap_alloc _ _ _ (by simp)).trans q
  have qr : Boxed (((W.alloc (.cells #[.int .i64 (y : Int)] 3)).alloc (.cells #[] 5)).alloc (.cells #[.slice (some ⟨W.heap.size + 1, 0, none⟩) 0 0] 42)) (W.heap.size + 1 + 1) 42 (.slice (some ⟨W.heap.size + 1, 0, none⟩) 0 0) := by
    have q := Boxed.new ((W.alloc (.cells #[.int .i64 (y : Int)] 3)).alloc (.cells #[] 5)) 42 (.slice (some ⟨W.heap.size + 1, 0, none⟩) 0 0)
    rw [World.size_alloc, World.size_alloc] at q
    exact q
  have qo : ∀ k o, W.heap[k]? = some o → w3.heap[k]? = some o := fun k o q => by
    have hk := (Array.getElem?_eq_some_iff.1 q).1
    exact (hb3.block k (by omega)).trans ((Below.heap_alloc _ _ _ (by simp; omega)).trans ((Below.heap_alloc _ _ _ (by simp; omega)).trans ((Below.heap_alloc _ _ _ hk).trans q)))
  have hx3 : Boxed w3 W.heap.size 3 (.int .i64 (y : Int)) := (hb3.block _ (by omega)).trans qx
  have hl3 : w3.heap[W.heap.size + 1]? = some (.cells #[] 5 (0, 0)) := (hb3.block _ (by omega)).trans ql
  have hr3 : Boxed w3 (W.heap.size + 1 + 1) 42 (.slice (some ⟨W.heap.size + 1, 0, none⟩) 0 0) := (hb3.block _ (by omega)).trans qr
  have hB3 : Below w.heap.size w w3 := (((hB.alloc (by omega) _).alloc (by simp; omega) _).alloc (by simp; omega) _).trans ⟨hb3.os, hb3.tape, hb3.output, hb3.size, fun k hk => hb3.block k (by omega)⟩
  obtain ⟨K, hKe⟩ : ∃ K : List (Nat × Obj), K = ((W.heap.size, .cells #[.int .i64 (y : Int)] 3 (0, 0)) :: (W.heap.size + 1 + 1 + 1, .cells #[.slice (some ⟨g, 0, none⟩) R cap] 40 (0, 0)) :: (g, .cells cur 9 (0, 0)) :: (g1, .cells cur1 9 (0, 0)) :: Ds.map (fun D => (D, Obj.deferred (some [])))) := ⟨_, rfl⟩
  have hK3 : KeepL K w3 := by
    rw [hKe]
    intro p hp
    simp only [List.mem_cons, List.mem_map] at hp
    rcases hp with rfl | rfl | rfl | rfl | ⟨D, hDm, rfl⟩
    · exact hx3
    · exact hbx
    · exact qo _ _ hgW
    · exact qo _ _ hg1a
    · exact qo _ _ (hD D hDm).2
  have hKn : ∀ p ∈ K, p.1 < w3.heap.size ∧ p.1 ≠ W.heap.size + 1 + 1 ∧ ∀ cu, p.2 ≠ .cells cu 5 (0, 0) := by
    rw [hKe]
    intro p hp
    simp only [List.mem_cons, List.mem_map] at hp
    rcases hp with rfl | rfl | rfl | rfl | ⟨D, hDm, rfl⟩
    · exact ⟨by simp only; omega, by simp only; omega, fun cu q => by injection q with _ q; exact absurd q (by decide)⟩
    · exact ⟨by simp only; omega, by simp only; omega, fun cu q => by injection q with _ q; exact absurd q (by decide)⟩
    · exact ⟨by simp only; omega, by simp only; omega, fun cu q => by injection q with _ q; exact absurd q (by decide)⟩
    · exact ⟨by simp only; omega, by simp only; omega, fun cu q => by injection q with _ q; exact absurd q (by decide)⟩
    · have := hDl D hDm
      exact ⟨by simp only; omega, by simp only; omega, fun cu q => by cases q⟩
  have hrow3 : w3.ownsRow (W.heap.size + 1) 5 1 (.slice (some ⟨W.heap.size + 1, 0, none⟩) 0 0) 0 [] := ⟨rfl, .inr ⟨_, 0, #[], rfl, Nat.le_refl _, hl3, Nat.le_refl _, Nat.zero_le _, rfl, rfl⟩⟩
  obtain ⟨i0, hi, hz0, hz1, hz2⟩ := info_parts infoByte
  refine wpIn_rangeFunc_ownG rfl h1n (gf := 34) (lb := #[.pointer (some ⟨W.heap.size + 1 + 1 + 1, 0, none⟩)]) rfl trivial (enters_of Tryd.func34 (by kernel_rfl) rfl)
    (back_stops Fence.wide (n - 1) trivial rfl (by omega) _ g R cap rows cur (by omega) hg3 w3 hbx (qo _ _ hgW)) backK_t backK_b (Below.refl _ _) (fun _ => rfl)
    (fun (pre : List (Fin R)) X => ((∃ v, Boxed X (W.heap.size + 1 + 1) 42 v ∧ X.ownsRow (W.heap.size + 1) 5 1 v pre.length (colV rows R y pre) ∧ True) ∧ Below w.heap.size w X) ∧ KeepL K X)
    (fun _ _ _ => False)
    (OwnFrom.and (OwnFrom.and (Own.from (holdsRow_own (W.heap.size + 1) (W.heap.size + 1 + 1) 42 5 1 (fun pre : List (Fin R) => pre.length) (fun pre : List (Fin R) => colV rows R y pre) (fun _ _ => True)) _) (ownFrom_below (Nat.le_refl _) (by omega))) (ownFrom_keepL (fun p hp => (hKn p hp).1)))
    (fun _ _ _ _ _ hs _ _ => hs)
    ⟨⟨⟨_, hr3, hrow3, trivial⟩, hB3⟩, hK3⟩
    (fun x => { tmps := #[.string s, undef, .string ⟨#[]⟩, .bool false, .slice (some ⟨g, 0, none⟩) R cap, .slice (some ⟨g1, 0, none⟩) y cap1, .pointer (some ⟨W.heap.size, 0, none⟩), .pointer (some ⟨W.heap.size + 1 + 1, 0, none⟩), u8, .string (rows[R - 1 - x.val]?.getD ByteArray.empty), .string s, .bool true, .bool false, .string s, .slice (some ⟨g, 0, none⟩) R cap, .slice (some ⟨w2.heap.size, 0, none⟩) 0 0, .slice (some ⟨g, 0, none⟩) R cap, .pointer (some ⟨g, 0, none⟩), .string r0, .int .i64 (wd : Int), .int .i64 (y : Int), .bool true, .int .i64 (y : Int), .slice (some ⟨W.heap.size + 1, 0, none⟩) 0 0, .slice (some ⟨g, 0, none⟩) R cap, .func (.func 34) #[] #[.pointer (some ⟨W.heap.size + 1 + 1 + 1, 0, none⟩)], .int .i64 ((R - 1 - x.val : Nat) : Int), .string (rows[R - 1 - x.val]?.getD ByteArray.empty), u28, u29, u30, u31, u32, u33, u34, u35, u36, u37, u38, u39, u40, u41], defers := [] }) ?assign ?body ?done ?stop
  case assign =>
    intro l x X Q hQ
    gi_wp2
    exact hQ
  case body =>
    rintro l pre x X ⟨⟨⟨v, hv, hrv, -⟩, hBX⟩, hKX⟩ hplt
    have hc := hv.cell
    have hcx : X.cell? ⟨W.heap.size, 0, none⟩ = some (.int .i64 (y : Int)) := Boxed.cell (hKX (W.heap.size, .cells #[.int .i64 (y : Int)] 3 (0, 0)) (by rw [hKe]; exact List.mem_cons_self))
    have hmo : Tryd.prog.follows .mixedOrders = true := by kernel_rfl
    obtain ⟨rx, hrx⟩ : ∃ rx, (rows[R - 1 - x.val]?.getD ByteArray.empty) = rx := ⟨_, rfl⟩
    have hrxs : rx.size = wd := by rw [← hrx, List.getElem?_eq_getElem (by have := x.isLt; omega)]; exact hrw _ (List.getElem_mem _)
    have hyi : (0 : Int) ≤ (y : Int) ∧ (y : Int) < (rx.size : Int) := by omega
    rw [hrx]
    have hml : pre.length + 1 ≤ maxLen := by unfold maxLen; omega
    have hml2 : (pre.length + 1) * 1 ≤ 140737488355328 := by omega
    have hvd : Boxed X.drew (W.heap.size + 1 + 1) 42 v := hv
    have hrvd : X.drew.ownsRow (W.heap.size + 1) 5 1 v pre.length (colV rows R y pre) := hrv
    have hKd : KeepL K X.drew := hKX
    have hcd : X.drew.cell? ⟨W.heap.size + 1 + 1, 0, none⟩ = some v := hc
    have hcxd : X.drew.cell? ⟨W.heap.size, 0, none⟩ = some (.int .i64 (y : Int)) := hcx
    have hXs : W.heap.size + 1 + 1 < X.drew.heap.size := hv.lt
    have hkey : ∀ (x1 : World) (v' : Value) (tmp : Obj), (X.drew.alloc tmp).grownBy x1 v.ownBlock → KeepL K (x1.setCell ⟨W.heap.size + 1 + 1, 0, none⟩ v') ∧ BackK (W.heap.size + 1 + 1 + 1) 40 g X (x1.setCell ⟨W.heap.size + 1 + 1, 0, none⟩ v') := fun x1 v' tmp hg => ⟨keepL_step hKd (fun p hp => (hKn p hp).2) hrvd hg, backK_step (W := X.drew) (by decide) (by omega) (by omega) ⟨cur, 9, hKX (g, .cells cur 9 (0, 0)) (by rw [hKe]; simp), by decide⟩ hrvd hg⟩
    have body_end : ∀ {x1 : World} {g' cap' : Nat} {tmp : Obj} {z : Value} {ac : Act}, z = .int .u8 (bB rx y) → KeepsOthers X.drew (x1.setCell ⟨W.heap.size + 1 + 1, 0, none⟩ (.slice (some ⟨g', 0, none⟩) (pre.length + 1) cap')) → Below (W.heap.size + 1) X.drew (x1.setCell ⟨W.heap.size + 1 + 1, 0, none⟩ (.slice (some ⟨g', 0, none⟩) (pre.length + 1) cap')) → Boxed (x1.setCell ⟨W.heap.size + 1 + 1, 0, none⟩ (.slice (some ⟨g', 0, none⟩) (pre.length + 1) cap')) (W.heap.size + 1 + 1) 42 (.slice (some ⟨g', 0, none⟩) (pre.length + 1) cap') → (x1.setCell ⟨W.heap.size + 1 + 1, 0, none⟩ (.slice (some ⟨g', 0, none⟩) (pre.length + 1) cap')).ownsRow (W.heap.size + 1) 5 1 (.slice (some ⟨g', 0, none⟩) (pre.length + 1) cap') (pre.length + 1) (colV rows R y pre ++ [z]) → (X.drew.alloc tmp).grownBy x1 v.ownBlock → ownPostG w3.heap.size (BackK (W.heap.size + 1 + 1 + 1) 40 g) (fun (pre : List (Fin R)) X => ((∃ v, Boxed X (W.heap.size + 1 + 1) 42 v ∧ X.ownsRow (W.heap.size + 1) 5 1 v pre.length (colV rows R y pre) ∧ True) ∧ Below w.heap.size w X) ∧ KeepL K X) (fun _ _ _ => False) (pre ++ [x]) X .normal ac (x1.setCell ⟨W.heap.size + 1 + 1, 0, none⟩ (.slice (some ⟨g', 0, none⟩) (pre.length + 1) cap')) := by
      intro x1 g' cap' tmp z ac hz hk hb hv2 hr2 hg
      subst hz
      obtain ⟨q1, q2⟩ := hkey x1 (.slice (some ⟨g', 0, none⟩) (pre.length + 1) cap') tmp hg
      have hk' : KeepsOthers X (x1.setCell ⟨W.heap.size + 1 + 1, 0, none⟩ (.slice (some ⟨g', 0, none⟩) (pre.length + 1) cap')) := ⟨hk.size, fun k o a b => hk.same k o a b⟩
      refine ⟨hk'.from _, q2, ⟨⟨_, hv2, ?_, trivial⟩, hBX.trans ⟨hb.os, hb.tape, hb.output, hb.size, fun k hk => hb.block k (by omega)⟩⟩, q1⟩
      have e : colV rows R y (pre ++ [x]) = colV rows R y pre ++ [.int .u8 (bB rx y)] := by unfold colV; rw [List.map_append]; simp [hrx]
      rw [e, List.length_append]
      exact hr2
    have hXs2 : W.heap.size + 1 + 1 < X.heap.size := hv.lt
    have hca : ∀ o, (X.alloc o).cell? ⟨W.heap.size + 1 + 1, 0, none⟩ = some v := fun o => (hv.alloc o).cell
    have hcb : ∀ o, (X.alloc o).drew.cell? ⟨W.heap.size + 1 + 1, 0, none⟩ = some v := fun o => (hv.alloc o).cell
    gi_wp2
    refine wpIn_region_any hmo ?_
    change wpAnyIn _ _ _ _ _ _ _ _ _ (World.drew _)
    -- ORDERS
    refine wpAnyIn_ready (rs := [0, 1, 2]) (by kernel_rfl) (by simp) ?_
    refine AllReadyIn.cons rfl (fun K hK => ?_) (AllReadyIn.cons rfl (fun K hK => ?_) (AllReadyIn.cons rfl (fun K hK => ?_) AllReadyIn.nil))
    · go_simp
      refine hK _ _ ?_
      clear hK K
      refine wpAnyIn_ready (rs := [1, 2]) (by kernel_rfl) (by simp) ?_
      refine AllReadyIn.cons rfl (fun K hK => ?_) (AllReadyIn.cons rfl (fun K hK => ?_) AllReadyIn.nil)
      · go_simp
        refine hK _ _ ?_
        clear hK K
        refine wpAnyIn_ready (rs := [2]) (by kernel_rfl) (by simp) ?_
        refine AllReadyIn.cons rfl (fun K hK => ?_) AllReadyIn.nil
        go_simp
        refine hK _ _ ?_
        clear hK K
        refine wpAnyIn_ready (rs := [3]) (by kernel_rfl) (by simp) ?_
        refine AllReadyIn.cons rfl (fun K hK => ?_) AllReadyIn.nil
        go_simp
        refine hK _ _ ?_
        clear hK K
        refine wpAnyIn_ready (rs := [4]) (by kernel_rfl) (by simp) ?_
        refine AllReadyIn.cons rfl (fun K hK => ?_) AllReadyIn.nil
        go_simp
        refine hK _ _ ?_
        clear hK K
        refine wpAnyIn_ready (rs := [5]) (by kernel_rfl) (by simp) ?_
        refine AllReadyIn.cons rfl (fun K hK => ?_) AllReadyIn.nil
        rw [if_pos (by rfl)]
        refine opIn_append_own _ (.tmp 28) (.tmp 32) 42 rfl (W.heap.size + 1) 5 i0 (.int .u8 0) 1 1 Tryd.underlying42 hi hz0 hz1 hz2 rfl (by decide) v pre.length (colV rows R y pre) rfl (hrvd.alloc _) ⟨X.heap.size, 0, none⟩ 1 1 [_] rfl rfl (cell_one_new _ _ _) (by simp [Value.oneCell']) hml hml2 (show W.heap.size + 1 ≤ (X.alloc _).heap.size by rw [World.size_alloc]; have := hv.lt; omega) (fun v' x1 hown' hgrow => ?_)
        obtain ⟨g', cap', rfl⟩ := ownsRow_succ hown'
        obtain ⟨hv1, hv2, hr2, hk2, hb2'⟩ := hvd.appended (by decide) hrvd (by omega) (Nat.le_succ _) hown' hgrow
        have hc1 := hv1.cell
        have hf1 := hv1.frozen
        refine hK _ _ ?_
        clear hK K
        refine wpAnyIn_ready (rs := [6]) (by kernel_rfl) (by simp) ?_
        refine AllReadyIn.cons rfl (fun K hK => ?_) AllReadyIn.nil
        go_simp
        refine hK _ _ ?_
        clear hK K
        refine wpAnyIn_done (by kernel_rfl) ?_ _
        refine body_end (ac := ⟨#[], []⟩) ?_ hk2 hb2' hv2 hr2 hgrow
        exact bB_at (by omega)
      · go_simp
        refine hK _ _ ?_
        clear hK K
        refine wpAnyIn_ready (rs := [1]) (by kernel_rfl) (by simp) ?_
        refine AllReadyIn.cons rfl (fun K hK => ?_) AllReadyIn.nil
        go_simp
        refine hK _ _ ?_
        clear hK K
        refine wpAnyIn_ready (rs := [3]) (by kernel_rfl) (by simp) ?_
        refine AllReadyIn.cons rfl (fun K hK => ?_) AllReadyIn.nil
        go_simp
        refine hK _ _ ?_
        clear hK K
        refine wpAnyIn_ready (rs := [4]) (by kernel_rfl) (by simp) ?_
        refine AllReadyIn.cons rfl (fun K hK => ?_) AllReadyIn.nil
        go_simp
        refine hK _ _ ?_
        clear hK K
        refine wpAnyIn_ready (rs := [5]) (by kernel_rfl) (by simp) ?_
        refine AllReadyIn.cons rfl (fun K hK => ?_) AllReadyIn.nil
        rw [if_pos (by rfl)]
        refine opIn_append_own _ (.tmp 28) (.tmp 32) 42 rfl (W.heap.size + 1) 5 i0 (.int .u8 0) 1 1 Tryd.underlying42 hi hz0 hz1 hz2 rfl (by decide) v pre.length (colV rows R y pre) rfl (hrvd.alloc _) ⟨X.heap.size, 0, none⟩ 1 1 [_] rfl rfl (cell_one_new _ _ _) (by simp [Value.oneCell']) hml hml2 (show W.heap.size + 1 ≤ (X.alloc _).heap.size by rw [World.size_alloc]; have := hv.lt; omega) (fun v' x1 hown' hgrow => ?_)
        obtain ⟨g', cap', rfl⟩ := ownsRow_succ hown'
        obtain ⟨hv1, hv2, hr2, hk2, hb2'⟩ := hvd.appended (by decide) hrvd (by omega) (Nat.le_succ _) hown' hgrow
        have hc1 := hv1.cell
        have hf1 := hv1.frozen
        refine hK _ _ ?_
        clear hK K
        refine wpAnyIn_ready (rs := [6]) (by kernel_rfl) (by simp) ?_
        refine AllReadyIn.cons rfl (fun K hK => ?_) AllReadyIn.nil
        go_simp
        refine hK _ _ ?_
        clear hK K
        refine wpAnyIn_done (by kernel_rfl) ?_ _
        refine body_end (ac := ⟨#[], []⟩) ?_ hk2 hb2' hv2 hr2 hgrow
        exact bB_at (by omega)
    · go_simp
      refine hK _ _ ?_
      clear hK K
      refine wpAnyIn_ready (rs := [0, 2]) (by kernel_rfl) (by simp) ?_
      refine AllReadyIn.cons rfl (fun K hK => ?_) (AllReadyIn.cons rfl (fun K hK => ?_) AllReadyIn.nil)
      · go_simp
        refine hK _ _ ?_
        clear hK K
        refine wpAnyIn_ready (rs := [2]) (by kernel_rfl) (by simp) ?_
        refine AllReadyIn.cons rfl (fun K hK => ?_) AllReadyIn.nil
        go_simp
        refine hK _ _ ?_
        clear hK K
        refine wpAnyIn_ready (rs := [3]) (by kernel_rfl) (by simp) ?_
        refine AllReadyIn.cons rfl (fun K hK => ?_) AllReadyIn.nil
        go_simp
        refine hK _ _ ?_
        clear hK K
        refine wpAnyIn_ready (rs := [4]) (by kernel_rfl) (by simp) ?_
        refine AllReadyIn.cons rfl (fun K hK => ?_) AllReadyIn.nil
        go_simp
        refine hK _ _ ?_
        clear hK K
        refine wpAnyIn_ready (rs := [5]) (by kernel_rfl) (by simp) ?_
        refine AllReadyIn.cons rfl (fun K hK => ?_) AllReadyIn.nil
        rw [if_pos (by rfl)]
        refine opIn_append_own _ (.tmp 28) (.tmp 32) 42 rfl (W.heap.size + 1) 5 i0 (.int .u8 0) 1 1 Tryd.underlying42 hi hz0 hz1 hz2 rfl (by decide) v pre.length (colV rows R y pre) rfl (hrvd.alloc _) ⟨X.heap.size, 0, none⟩ 1 1 [_] rfl rfl (cell_one_new _ _ _) (by simp [Value.oneCell']) hml hml2 (show W.heap.size + 1 ≤ (X.alloc _).heap.size by rw [World.size_alloc]; have := hv.lt; omega) (fun v' x1 hown' hgrow => ?_)
        obtain ⟨g', cap', rfl⟩ := ownsRow_succ hown'
        obtain ⟨hv1, hv2, hr2, hk2, hb2'⟩ := hvd.appended (by decide) hrvd (by omega) (Nat.le_succ _) hown' hgrow
        have hc1 := hv1.cell
        have hf1 := hv1.frozen
        refine hK _ _ ?_
        clear hK K
        refine wpAnyIn_ready (rs := [6]) (by kernel_rfl) (by simp) ?_
        refine AllReadyIn.cons rfl (fun K hK => ?_) AllReadyIn.nil
        go_simp
        refine hK _ _ ?_
        clear hK K
        refine wpAnyIn_done (by kernel_rfl) ?_ _
        refine body_end (ac := ⟨#[], []⟩) ?_ hk2 hb2' hv2 hr2 hgrow
        exact bB_at (by omega)
      · go_simp
        refine hK _ _ ?_
        clear hK K
        refine wpAnyIn_ready (rs := [0, 3]) (by kernel_rfl) (by simp) ?_
        refine AllReadyIn.cons rfl (fun K hK => ?_) (AllReadyIn.cons rfl (fun K hK => ?_) AllReadyIn.nil)
        · go_simp
          refine hK _ _ ?_
          clear hK K
          refine wpAnyIn_ready (rs := [3]) (by kernel_rfl) (by simp) ?_
          refine AllReadyIn.cons rfl (fun K hK => ?_) AllReadyIn.nil
          go_simp
          refine hK _ _ ?_
          clear hK K
          refine wpAnyIn_ready (rs := [4]) (by kernel_rfl) (by simp) ?_
          refine AllReadyIn.cons rfl (fun K hK => ?_) AllReadyIn.nil
          go_simp
          refine hK _ _ ?_
          clear hK K
          refine wpAnyIn_ready (rs := [5]) (by kernel_rfl) (by simp) ?_
          refine AllReadyIn.cons rfl (fun K hK => ?_) AllReadyIn.nil
          rw [if_pos (by rfl)]
          refine opIn_append_own _ (.tmp 28) (.tmp 32) 42 rfl (W.heap.size + 1) 5 i0 (.int .u8 0) 1 1 Tryd.underlying42 hi hz0 hz1 hz2 rfl (by decide) v pre.length (colV rows R y pre) rfl (hrvd.alloc _) ⟨X.heap.size, 0, none⟩ 1 1 [_] rfl rfl (cell_one_new _ _ _) (by simp [Value.oneCell']) hml hml2 (show W.heap.size + 1 ≤ (X.alloc _).heap.size by rw [World.size_alloc]; have := hv.lt; omega) (fun v' x1 hown' hgrow => ?_)
          obtain ⟨g', cap', rfl⟩ := ownsRow_succ hown'
          obtain ⟨hv1, hv2, hr2, hk2, hb2'⟩ := hvd.appended (by decide) hrvd (by omega) (Nat.le_succ _) hown' hgrow
          have hc1 := hv1.cell
          have hf1 := hv1.frozen
          refine hK _ _ ?_
          clear hK K
          refine wpAnyIn_ready (rs := [6]) (by kernel_rfl) (by simp) ?_
          refine AllReadyIn.cons rfl (fun K hK => ?_) AllReadyIn.nil
          go_simp
          refine hK _ _ ?_
          clear hK K
          refine wpAnyIn_done (by kernel_rfl) ?_ _
          refine body_end (ac := ⟨#[], []⟩) ?_ hk2 hb2' hv2 hr2 hgrow
          exact bB_at (by omega)
        · go_simp
          refine hK _ _ ?_
          clear hK K
          refine wpAnyIn_ready (rs := [0, 4]) (by kernel_rfl) (by simp) ?_
          refine AllReadyIn.cons rfl (fun K hK => ?_) (AllReadyIn.cons rfl (fun K hK => ?_) AllReadyIn.nil)
          · go_simp
            refine hK _ _ ?_
            clear hK K
            refine wpAnyIn_ready (rs := [4]) (by kernel_rfl) (by simp) ?_
            refine AllReadyIn.cons rfl (fun K hK => ?_) AllReadyIn.nil
            go_simp
            refine hK _ _ ?_
            clear hK K
            refine wpAnyIn_ready (rs := [5]) (by kernel_rfl) (by simp) ?_
            refine AllReadyIn.cons rfl (fun K hK => ?_) AllReadyIn.nil
            rw [if_pos (by rfl)]
            refine opIn_append_own _ (.tmp 28) (.tmp 32) 42 rfl (W.heap.size + 1) 5 i0 (.int .u8 0) 1 1 Tryd.underlying42 hi hz0 hz1 hz2 rfl (by decide) v pre.length (colV rows R y pre) rfl (hrvd.alloc _) ⟨X.heap.size, 0, none⟩ 1 1 [_] rfl rfl (cell_one_new _ _ _) (by simp [Value.oneCell']) hml hml2 (show W.heap.size + 1 ≤ (X.alloc _).heap.size by rw [World.size_alloc]; have := hv.lt; omega) (fun v' x1 hown' hgrow => ?_)
            obtain ⟨g', cap', rfl⟩ := ownsRow_succ hown'
            obtain ⟨hv1, hv2, hr2, hk2, hb2'⟩ := hvd.appended (by decide) hrvd (by omega) (Nat.le_succ _) hown' hgrow
            have hc1 := hv1.cell
            have hf1 := hv1.frozen
            refine hK _ _ ?_
            clear hK K
            refine wpAnyIn_ready (rs := [6]) (by kernel_rfl) (by simp) ?_
            refine AllReadyIn.cons rfl (fun K hK => ?_) AllReadyIn.nil
            go_simp
            refine hK _ _ ?_
            clear hK K
            refine wpAnyIn_done (by kernel_rfl) ?_ _
            refine body_end (ac := ⟨#[], []⟩) ?_ hk2 hb2' hv2 hr2 hgrow
            exact bB_at (by omega)
          · go_simp
            refine hK _ _ ?_
            clear hK K
            refine wpAnyIn_ready (rs := [0]) (by kernel_rfl) (by simp) ?_
            refine AllReadyIn.cons rfl (fun K hK => ?_) AllReadyIn.nil
            go_simp
            refine hK _ _ ?_
            clear hK K
            refine wpAnyIn_ready (rs := [5]) (by kernel_rfl) (by simp) ?_
            refine AllReadyIn.cons rfl (fun K hK => ?_) AllReadyIn.nil
            rw [if_pos (by rfl)]
            refine opIn_append_own _ (.tmp 28) (.tmp 32) 42 rfl (W.heap.size + 1) 5 i0 (.int .u8 0) 1 1 Tryd.underlying42 hi hz0 hz1 hz2 rfl (by decide) v pre.length (colV rows R y pre) rfl (hrvd.alloc _) ⟨X.heap.size, 0, none⟩ 1 1 [_] rfl rfl (cell_one_new _ _ _) (by simp [Value.oneCell']) hml hml2 (show W.heap.size + 1 ≤ (X.alloc _).heap.size by rw [World.size_alloc]; have := hv.lt; omega) (fun v' x1 hown' hgrow => ?_)
            obtain ⟨g', cap', rfl⟩ := ownsRow_succ hown'
            obtain ⟨hv1, hv2, hr2, hk2, hb2'⟩ := hvd.appended (by decide) hrvd (by omega) (Nat.le_succ _) hown' hgrow
            have hc1 := hv1.cell
            have hf1 := hv1.frozen
            refine hK _ _ ?_
            clear hK K
            refine wpAnyIn_ready (rs := [6]) (by kernel_rfl) (by simp) ?_
            refine AllReadyIn.cons rfl (fun K hK => ?_) AllReadyIn.nil
            go_simp
            refine hK _ _ ?_
            clear hK K
            refine wpAnyIn_done (by kernel_rfl) ?_ _
            refine body_end (ac := ⟨#[], []⟩) ?_ hk2 hb2' hv2 hr2 hgrow
            exact bB_at (by omega)
    · go_simp
      refine hK _ _ ?_
      clear hK K
      refine wpAnyIn_ready (rs := [0, 1]) (by kernel_rfl) (by simp) ?_
      refine AllReadyIn.cons rfl (fun K hK => ?_) (AllReadyIn.cons rfl (fun K hK => ?_) AllReadyIn.nil)
      · go_simp
        refine hK _ _ ?_
        clear hK K
        refine wpAnyIn_ready (rs := [1]) (by kernel_rfl) (by simp) ?_
        refine AllReadyIn.cons rfl (fun K hK => ?_) AllReadyIn.nil
        go_simp
        refine hK _ _ ?_
        clear hK K
        refine wpAnyIn_ready (rs := [3]) (by kernel_rfl) (by simp) ?_
        refine AllReadyIn.cons rfl (fun K hK => ?_) AllReadyIn.nil
        go_simp
        refine hK _ _ ?_
        clear hK K
        refine wpAnyIn_ready (rs := [4]) (by kernel_rfl) (by simp) ?_
        refine AllReadyIn.cons rfl (fun K hK => ?_) AllReadyIn.nil
        go_simp
        refine hK _ _ ?_
        clear hK K
        refine wpAnyIn_ready (rs := [5]) (by kernel_rfl) (by simp) ?_
        refine AllReadyIn.cons rfl (fun K hK => ?_) AllReadyIn.nil
        rw [if_pos (by rfl)]
        refine opIn_append_own _ (.tmp 28) (.tmp 32) 42 rfl (W.heap.size + 1) 5 i0 (.int .u8 0) 1 1 Tryd.underlying42 hi hz0 hz1 hz2 rfl (by decide) v pre.length (colV rows R y pre) rfl (hrvd.alloc _) ⟨X.heap.size, 0, none⟩ 1 1 [_] rfl rfl (cell_one_new _ _ _) (by simp [Value.oneCell']) hml hml2 (show W.heap.size + 1 ≤ (X.alloc _).heap.size by rw [World.size_alloc]; have := hv.lt; omega) (fun v' x1 hown' hgrow => ?_)
        obtain ⟨g', cap', rfl⟩ := ownsRow_succ hown'
        obtain ⟨hv1, hv2, hr2, hk2, hb2'⟩ := hvd.appended (by decide) hrvd (by omega) (Nat.le_succ _) hown' hgrow
        have hc1 := hv1.cell
        have hf1 := hv1.frozen
        refine hK _ _ ?_
        clear hK K
        refine wpAnyIn_ready (rs := [6]) (by kernel_rfl) (by simp) ?_
        refine AllReadyIn.cons rfl (fun K hK => ?_) AllReadyIn.nil
        go_simp
        refine hK _ _ ?_
        clear hK K
        refine wpAnyIn_done (by kernel_rfl) ?_ _
        refine body_end (ac := ⟨#[], []⟩) ?_ hk2 hb2' hv2 hr2 hgrow
        exact bB_at (by omega)
      · go_simp
        refine hK _ _ ?_
        clear hK K
        refine wpAnyIn_ready (rs := [0, 3]) (by kernel_rfl) (by simp) ?_
        refine AllReadyIn.cons rfl (fun K hK => ?_) (AllReadyIn.cons rfl (fun K hK => ?_) AllReadyIn.nil)
        · go_simp
          refine hK _ _ ?_
          clear hK K
          refine wpAnyIn_ready (rs := [3]) (by kernel_rfl) (by simp) ?_
          refine AllReadyIn.cons rfl (fun K hK => ?_) AllReadyIn.nil
          go_simp
          refine hK _ _ ?_
          clear hK K
          refine wpAnyIn_ready (rs := [4]) (by kernel_rfl) (by simp) ?_
          refine AllReadyIn.cons rfl (fun K hK => ?_) AllReadyIn.nil
          go_simp
          refine hK _ _ ?_
          clear hK K
          refine wpAnyIn_ready (rs := [5]) (by kernel_rfl) (by simp) ?_
          refine AllReadyIn.cons rfl (fun K hK => ?_) AllReadyIn.nil
          rw [if_pos (by rfl)]
          refine opIn_append_own _ (.tmp 28) (.tmp 32) 42 rfl (W.heap.size + 1) 5 i0 (.int .u8 0) 1 1 Tryd.underlying42 hi hz0 hz1 hz2 rfl (by decide) v pre.length (colV rows R y pre) rfl (hrvd.alloc _) ⟨X.heap.size, 0, none⟩ 1 1 [_] rfl rfl (cell_one_new _ _ _) (by simp [Value.oneCell']) hml hml2 (show W.heap.size + 1 ≤ (X.alloc _).heap.size by rw [World.size_alloc]; have := hv.lt; omega) (fun v' x1 hown' hgrow => ?_)
          obtain ⟨g', cap', rfl⟩ := ownsRow_succ hown'
          obtain ⟨hv1, hv2, hr2, hk2, hb2'⟩ := hvd.appended (by decide) hrvd (by omega) (Nat.le_succ _) hown' hgrow
          have hc1 := hv1.cell
          have hf1 := hv1.frozen
          refine hK _ _ ?_
          clear hK K
          refine wpAnyIn_ready (rs := [6]) (by kernel_rfl) (by simp) ?_
          refine AllReadyIn.cons rfl (fun K hK => ?_) AllReadyIn.nil
          go_simp
          refine hK _ _ ?_
          clear hK K
          refine wpAnyIn_done (by kernel_rfl) ?_ _
          refine body_end (ac := ⟨#[], []⟩) ?_ hk2 hb2' hv2 hr2 hgrow
          exact bB_at (by omega)
        · go_simp
          refine hK _ _ ?_
          clear hK K
          refine wpAnyIn_ready (rs := [0, 4]) (by kernel_rfl) (by simp) ?_
          refine AllReadyIn.cons rfl (fun K hK => ?_) (AllReadyIn.cons rfl (fun K hK => ?_) AllReadyIn.nil)
          · go_simp
            refine hK _ _ ?_
            clear hK K
            refine wpAnyIn_ready (rs := [4]) (by kernel_rfl) (by simp) ?_
            refine AllReadyIn.cons rfl (fun K hK => ?_) AllReadyIn.nil
            go_simp
            refine hK _ _ ?_
            clear hK K
            refine wpAnyIn_ready (rs := [5]) (by kernel_rfl) (by simp) ?_
            refine AllReadyIn.cons rfl (fun K hK => ?_) AllReadyIn.nil
            rw [if_pos (by rfl)]
            refine opIn_append_own _ (.tmp 28) (.tmp 32) 42 rfl (W.heap.size + 1) 5 i0 (.int .u8 0) 1 1 Tryd.underlying42 hi hz0 hz1 hz2 rfl (by decide) v pre.length (colV rows R y pre) rfl (hrvd.alloc _) ⟨X.heap.size, 0, none⟩ 1 1 [_] rfl rfl (cell_one_new _ _ _) (by simp [Value.oneCell']) hml hml2 (show W.heap.size + 1 ≤ (X.alloc _).heap.size by rw [World.size_alloc]; have := hv.lt; omega) (fun v' x1 hown' hgrow => ?_)
            obtain ⟨g', cap', rfl⟩ := ownsRow_succ hown'
            obtain ⟨hv1, hv2, hr2, hk2, hb2'⟩ := hvd.appended (by decide) hrvd (by omega) (Nat.le_succ _) hown' hgrow
            have hc1 := hv1.cell
            have hf1 := hv1.frozen
            refine hK _ _ ?_
            clear hK K
            refine wpAnyIn_ready (rs := [6]) (by kernel_rfl) (by simp) ?_
            refine AllReadyIn.cons rfl (fun K hK => ?_) AllReadyIn.nil
            go_simp
            refine hK _ _ ?_
            clear hK K
            refine wpAnyIn_done (by kernel_rfl) ?_ _
            refine body_end (ac := ⟨#[], []⟩) ?_ hk2 hb2' hv2 hr2 hgrow
            exact bB_at (by omega)
          · go_simp
            refine hK _ _ ?_
            clear hK K
            refine wpAnyIn_ready (rs := [0]) (by kernel_rfl) (by simp) ?_
            refine AllReadyIn.cons rfl (fun K hK => ?_) AllReadyIn.nil
            go_simp
            refine hK _ _ ?_
            clear hK K
            refine wpAnyIn_ready (rs := [5]) (by kernel_rfl) (by simp) ?_
            refine AllReadyIn.cons rfl (fun K hK => ?_) AllReadyIn.nil
            rw [if_pos (by rfl)]
            refine opIn_append_own _ (.tmp 28) (.tmp 32) 42 rfl (W.heap.size + 1) 5 i0 (.int .u8 0) 1 1 Tryd.underlying42 hi hz0 hz1 hz2 rfl (by decide) v pre.length (colV rows R y pre) rfl (hrvd.alloc _) ⟨X.heap.size, 0, none⟩ 1 1 [_] rfl rfl (cell_one_new _ _ _) (by simp [Value.oneCell']) hml hml2 (show W.heap.size + 1 ≤ (X.alloc _).heap.size by rw [World.size_alloc]; have := hv.lt; omega) (fun v' x1 hown' hgrow => ?_)
            obtain ⟨g', cap', rfl⟩ := ownsRow_succ hown'
            obtain ⟨hv1, hv2, hr2, hk2, hb2'⟩ := hvd.appended (by decide) hrvd (by omega) (Nat.le_succ _) hown' hgrow
            have hc1 := hv1.cell
            have hf1 := hv1.frozen
            refine hK _ _ ?_
            clear hK K
            refine wpAnyIn_ready (rs := [6]) (by kernel_rfl) (by simp) ?_
            refine AllReadyIn.cons rfl (fun K hK => ?_) AllReadyIn.nil
            go_simp
            refine hK _ _ ?_
            clear hK K
            refine wpAnyIn_done (by kernel_rfl) ?_ _
            refine body_end (ac := ⟨#[], []⟩) ?_ hk2 hb2' hv2 hr2 hgrow
            exact bB_at (by omega)
    -- END
  case done =>
    rintro D ys X hDs rfl ⟨⟨⟨v, hv, hrv, -⟩, hBX⟩, hKX⟩ hDd
    have hc := hv.cell
    rw [List.length_finRange] at hrv
    obtain ⟨gv, cv, rfl, hvc⟩ : ∃ gv cv, v = .slice (some ⟨gv, 0, none⟩) R cv ∧ ∀ j, j < R → X.cell? ⟨gv, j, none⟩ = (colV rows R y (List.finRange R))[j]? := by
      rcases hrv.2 with ⟨_, q⟩ | ⟨g', cap', cur', q, hb', hh', hc', hm', hcs', htk'⟩
      · omega
      · refine ⟨g', cap', q, fun j hj => ?_⟩
        rw [← htk', List.getElem?_take, if_pos (by omega)]
        unfold World.cell?
        rw [hh']
        simp
    have hcv : (convert 42 9 (.slice (some ⟨gv, 0, none⟩) R cv)).run Tryd.prog X = .ok (.string (colT rows R y)) X := by
      have hl : ((List.finRange R).map fun x => (rows[R - 1 - x.val]?.getD ByteArray.empty).data.toList[y]?.getD 0).length = R := by simp
      have hr := run_convert_bytes_back (P := Tryd.prog) X 42 9 5 ⟨gv, 0, none⟩ cv ((List.finRange R).map fun x => (rows[R - 1 - x.val]?.getD ByteArray.empty).data.toList[y]?.getD 0) Tryd.underlying42 Tryd.underlying5 Tryd.underlying9 (fun k hk => by
        rw [hl] at hk
        have e4 : (⟨gv, 0, none⟩ : Addr).add k = ⟨gv, k, none⟩ := by
          unfold Addr.add
          split
          · rename_i q; rw [q]
          · simp
        rw [e4, hvc k hk]
        unfold colV bB
        simp [hk])
      rw [hl] at hr
      exact hr
    have hXg1 : X.heap[g1]? = some (.cells cur1 9 (0, 0)) := hKX (g1, .cells cur1 9 (0, 0)) (by rw [hKe]; simp)
    have hXg : X.heap[g]? = some (.cells cur 9 (0, 0)) := hKX (g, .cells cur 9 (0, 0)) (by rw [hKe]; simp)
    have hXD : ∀ D' ∈ Ds, X.heap[D']? = some (.deferred (some [])) := fun D' q => hKX (D', Obj.deferred (some [])) (by rw [hKe]; simp only [List.mem_cons, List.mem_map]; exact .inr (.inr (.inr (.inr ⟨D', q, rfl⟩))))
    have hrowX : X.ownsRow w2.heap.size 9 1 (.slice (some ⟨g1, 0, none⟩) y cap1) y ((turnT rows R y).map Value.string) := ⟨by simp [turnT], .inr ⟨g1, cap1, cur1, rfl, hg1b, hXg1, hcap1, hcap2, hcur1, htk⟩⟩
    have hXsz : g1 < X.heap.size := (Array.getElem?_eq_some_iff.1 hXg1).1
    obtain ⟨i1, hj, hq0, hq1, hq2⟩ := info_parts infoText
    have hml : y + 1 ≤ maxLen := by unfold maxLen; omega
    have hml2 : (y + 1) * 16 ≤ 140737488355328 := by omega
    gi_wp2_with (gi_at_builtin; refine wpListIn_append_own _ rfl _ _ 40 rfl w2.heap.size 9 i1 (.string ⟨#[]⟩) 1 16 Tryd.underlying40 hj hq0 hq1 hq2 rfl (by decide) _ _ _ rfl (hrowX.alloc _) ⟨X.heap.size, 0, none⟩ 1 1 [.string (colT rows R y)] rfl rfl (cell_one_new _ _ _) (by simp [Value.oneCell']) (by omega) (by omega) (by simp; omega) ?_; intro v' x1 hown' hgrow _; obtain ⟨g2, cap2, rfl⟩ := ownsRow_succ hown')
    have hXw : X.heap.size ≤ (X.alloc (.cells #[.string (colT rows R y)] 9)).heap.size := by rw [World.size_alloc]; omega
    have keepX : ∀ k o, X.heap[k]? = some o → k ≠ g1 → x1.heap[k]? = some o := fun k o q hne => (hgrow.block k (by have := (Array.getElem?_eq_some_iff.1 q).1; omega) (fun e => hne (by injection e))).trans ((Below.heap_alloc _ _ _ (Array.getElem?_eq_some_iff.1 q).1).trans q)
    have hDg : ∀ D', X.heap[D']? = some (.deferred (some [])) → D' ≠ g1 := fun D' q e => by rw [e, hXg1] at q; injection q with q; cases q
    have hts : (turnT rows R (y + 1)).map Value.string = (turnT rows R y).map Value.string ++ [Value.string (colT rows R y)] := by unfold turnT; rw [List.range_succ, List.map_append, List.map_append]; rfl
    refine ⟨⟨y + 1, g2, cap2, D :: Ds, _, _, _, _, _, _, _, _, _, _, _, _, _, _, _, _, _, _, _, _, _, _, _, _, _, rfl, by omega, by rw [hts]; exact hown', keepX _ _ hXg (by omega), below_grown hBX hBX.size hgrow (show w.heap.size ≤ g1 by omega), List.nodup_cons.2 ⟨fun q => by have := hDl D q; omega, hnd⟩, fun D' q => ?_⟩, ?_⟩
    · rcases List.mem_cons.1 q with rfl | q
      · exact ⟨by omega, keepX _ _ hDd (hDg _ hDd)⟩
      · exact ⟨(hD D' q).1, keepX _ _ (hXD D' q) (hDg _ (hXD D' q))⟩
    · simp [intOf]; omega
  case stop =>
    rintro D c pre X _ _ h _
    exact h.elim
end Go.Proofs.YtokkiiepddhkiaaDoor.Hd
