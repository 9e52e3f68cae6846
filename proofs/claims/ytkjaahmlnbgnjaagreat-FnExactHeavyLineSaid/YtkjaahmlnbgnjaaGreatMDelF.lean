/- slices.IndexFunc and slices.DeleteFunc with the closure of impl.Game.behind, by hand. -/
import Derived.Test.YtkjaahmlnbgnjaaGreatPMovedE
import Derived.Test.YtkjaahmlnbgnjaaGreatMSx5
import Derived.Test.YtkjaahmlnbgnjaaGreatMTileR
import Derived.Test.YtkjaahmlnbgnjaaGreatG0
import Derived.Test.YtkjaahmlnbgnjaaGreatMSx3
import Derived.Laws.OwnMore
namespace Go.Proofs.YtkjaahmlnbgnjaaGreat.Hd
open Go.RowKit Go.Proofs.YtkjaahmlnbgnjaaGreatW.PrintWords Go.Proofs.YtkjaahmlnbgnjaaGreatW.PrintLast Go.Proofs.YtkjaahmlnbgnjaaGreatW.PrintMore
set_option linter.unusedVariables false
set_option linter.unusedSimpArgs false
theorem Reps.take_ {α : Type} {R : α → List Value → Prop} {size : Nat} {ps : List α} {cs : List Value} (h : Reps R size ps cs) (m : Nat) (hm : m ≤ ps.length) : Reps R size (ps.take m) (cs.take (m * size)) := by
  have hl : m * size ≤ cs.length := by rw [h.1]; exact Nat.mul_le_mul_right _ hm
  refine ⟨by rw [List.length_take, List.length_take, Nat.min_eq_left hl, Nat.min_eq_left hm], fun j p hj => ?_⟩
  rw [List.getElem?_take] at hj
  split at hj
  · rename_i hjm
    have h1 := h.2 j p hj
    have e : ((cs.take (m * size)).drop (j * size)).take size = (cs.drop (j * size)).take size := by
      rw [List.drop_take, List.take_take]
      congr 1
      have h2 : (j + 1) * size ≤ m * size := Nat.mul_le_mul_right _ hjm
      rw [Nat.add_mul, Nat.one_mul] at h2
      omega
    rw [e]; exact h1
  · cases hj
theorem own_cut {W : World} {base e size g n c : Nat} {inner : List Value} (h : W.ownsRow base e size (.slice (some ⟨g, 0, none⟩) n c) n inner) (k : Nat) (hk : k ≤ n) : W.ownsRow base e size (.slice (some ⟨g, 0, none⟩) k c) k (inner.take (k * size)) := by
  have hle : k * size ≤ n * size := Nat.mul_le_mul_right _ hk
  refine ⟨by rw [List.length_take, h.1]; exact Nat.min_eq_left hle, ?_⟩
  rcases h.2 with ⟨e0, _⟩ | ⟨g', cap, cur, e0, hb, hh, hnc, hcm, hcs, htk⟩
  · cases e0
  · injection e0 with e1 e2 e3
    injection e1 with e1
    injection e1 with e1
    subst e1; subst e3
    exact .inr ⟨g, c, cur, rfl, hb, hh, by omega, hcm, hcs, by rw [← htk, List.take_take, Nat.min_eq_left hle]⟩
theorem R_cut {α : Type} {d : Kd α} {e base g n c : Nat} {W : World} {ok : Nat → Prop} {xs : List α} (h : d.R e W base ok (.slice (some ⟨g, 0, none⟩) n c) xs) (k : Nat) (hk : k ≤ n) : d.R e W base ok (.slice (some ⟨g, 0, none⟩) k c) (xs.take k) := by
  have hn : n = xs.length := (Kd.R_reads' h).1
  obtain ⟨hok, inner, hown, hr⟩ := h
  subst hn
  refine ⟨hok, inner.take (k * d.sz), ?_, Reps.take_ hr k hk⟩
  have h2 := own_cut hown k hk
  have e1 : (xs.take k).length = k := by rw [List.length_take]; omega
  rw [e1]
  exact h2
section
variable {α : Type} {P : Program} {ops : Array Oper} {Q : Exit → Act → World → Prop} {N : Nat} {s : List (Nat × Value)} {rest : List Oper} {o : Oper} {w0 W W' : World} {cs : List Chunk}
theorem Hp.cut (hp : Hp w0 cs W) (i : Nat) {d : Kd α} {e base g n c : Nat} {xs : List α} {F : Nat → Prop} (hc : cs[i]? = some (row d e base (.slice (some ⟨g, 0, none⟩) n c) xs F)) (k : Nat) (hk : k ≤ n) : Hp w0 (cs.set i (row d e base (.slice (some ⟨g, 0, none⟩) k c) (xs.take k) F)) W :=
  have hrow := hp.at_ i _ hc
  hp.upd i _ _ hc (Mv.refl _ _) ⟨R_cut hrow.1 k hk, hrow.2⟩ (fun q hq => .inl hq)
/-- Cells behind a row are cleared: the row is as it was. -/
theorem clear_run (hp : Hp w0 cs W) (i : Nat) {d : Kd α} {e base g n c : Nat} {xs : List α} {F : Nat → Prop} (hc : cs[i]? = some (row d e base (.slice (some ⟨g, 0, none⟩) n c) xs F)) {t ty : TypeId} {A2 : Option Addr} {m c2 : Nat} (hA : 0 < m → A2 = some ⟨g, n * d.sz, none⟩) (hfit : n + m ≤ c)
    (ht : P.underlying t = some (.slice e)) (z : Value) (hinfo : (P.info? e).map (fun i => (i.zero, i.size)) = some (some z, d.sz)) (hz : z.cells.size = d.sz) (hone : z.cells.all (·.oneCell') = true) :
    ∃ W', (Builtin.clear_ #[t] ty #[.slice A2 m c2]).run P W = .ok (.tuple #[]) W' ∧ Hp w0 cs W' := by
  rcases Nat.eq_zero_or_pos m with h0 | h0
  · subst h0
    refine ⟨W, ?_, hp⟩
    cases A2 <;> simp [Builtin.clear_, run_underlying ht]
  · obtain rfl := hA h0
    have hrow := hp.at_ i _ hc
    obtain ⟨i0, hi, hzz⟩ := Option.map_eq_some_iff.1 hinfo
    simp only [Prod.mk.injEq] at hzz
    obtain ⟨hz0, hz1⟩ := hzz
    have hn : n = xs.length := (Kd.R_reads' hrow.1).1
    subst hn
    obtain ⟨⟨hok, inner, hown, hr⟩, hF⟩ := hrow
    rcases hown.2 with ⟨e0, _⟩ | ⟨g', cap, cur, e0, hb, hh, hnc, hcm, hcs, htk⟩
    · cases e0
    · injection e0 with e1 e2 e3
      injection e1 with e1
      injection e1 with e1
      subst e1; subst e3
      have hzs : (Builtin.zeroCells z.cells m).toList.length = m * d.sz := by
        rw [Array.length_toList, size_zeroCells, hz]
      have hle : xs.length * d.sz + m * d.sz ≤ cur.size := by rw [hcs, ← Nat.add_mul]; exact Nat.mul_le_mul_right _ hfit
      have h1 : ∀ v ∈ (Builtin.zeroCells z.cells m).toList, v.oneCell' = true := by
        intro v hv
        have hv2 : v ∈ Builtin.zeroCells z.cells m := by simpa using hv
        unfold Builtin.zeroCells at hv2
        obtain ⟨j, hj, rfl⟩ := Array.mem_map.1 hv2
        rw [Array.all_eq_true_iff_forall_mem] at hone
        have hj2 : j < m * z.cells.size := by simpa using hj
        have hzp : 0 < z.cells.size := Nat.pos_of_ne_zero (fun e => by rw [e] at hj2; omega)
        have hlt := Nat.mod_lt j hzp
        rw [getElem!_pos z.cells (j % z.cells.size) hlt]
        exact hone _ (Array.getElem_mem hlt)
      have hst := run_storeCells_at P g (xs.length * d.sz) e (Builtin.zeroCells z.cells m).toList 0 cur W hh (by rw [hzs]; simpa using hle) h1
      try simp only [Nat.add_zero] at hst
      have hcl : (Builtin.clear_ #[t] ty #[.slice (some ⟨g, xs.length * d.sz, none⟩) m c2]).run P W = .ok (.tuple #[]) (W.setRow g (cur.toList.take (xs.length * d.sz) ++ (Builtin.zeroCells z.cells m).toList ++ cur.toList.drop (xs.length * d.sz + (Builtin.zeroCells z.cells m).toList.length)).toArray) := by
        cases m with
        | zero => omega
        | succ m' => simp [Builtin.clear_, run_underlying ht, zeroValue, typeInfo, hi, hz0, hst]
      refine ⟨_, hcl, ?_⟩
      have key : cs.set i (row d e base (.slice (some ⟨g, 0, none⟩) xs.length c) xs F) = cs := by
        have hlt := (List.getElem?_eq_some_iff.1 hc)
        rw [← hlt.2]
        exact List.set_getElem_self hlt.1
      rw [← key]
      refine hp.upd i _ _ hc (⟨rfl, rfl, rfl, by simp, fun k _ hk => setRow_other W g k _ (fun e => hk (by subst e; exact hok k (by simp [Value.ownBlock])))⟩) ⟨⟨hok, inner, ?_, ?_⟩, fun k hk => by simpa using hF k hk⟩ (fun k hk => .inl hk)
      · refine ⟨hown.1, .inr ⟨g, c, _, rfl, hb, setRow_heap W g cur _ e _ hh, hnc, hcm, ?_, ?_⟩⟩
        · simp only [List.size_toArray, List.length_append, List.length_take, List.length_drop, Array.length_toList, hzs]
          omega
        · rw [← htk]
          have e2 : (cur.toList.take (xs.length * d.sz)).length = xs.length * d.sz := by rw [List.length_take, Array.length_toList]; exact Nat.min_eq_left (Nat.le_trans (Nat.le_add_right _ _) hle)
          show List.take (xs.length * d.sz) ((cur.toList.take (xs.length * d.sz) ++ (Builtin.zeroCells z.cells m).toList) ++ _) = _
          rw [List.append_assoc, List.take_append_of_le_length (Nat.le_of_eq e2.symm), List.take_of_length_le (Nat.le_of_eq e2)]
      · refine hr.imp_ (fun p q hq => ?_)
        exact d.M_mono (fun k hk => hk.1) (d.M_move (w1 := _) (fun k hk => setRow_other W g k _ (fun e => hk.1.2 (by rw [e]; rfl))) (d.M_bound hq))
theorem sx_clear0 (hk : noB o = true) (hp : Hp w0 cs W) (i : Nat) (d : Kd α) {e base g n c : Nat} {xs : List α} {F : Nat → Prop} (hc : cs[i]? = some (row d e base (.slice (some ⟨g, 0, none⟩) n c) xs F)) {X : Operand} {t : TypeId} (ho : o.op = .call { callee := .builtin .clear, args := #[X], argTypes := #[t] }) {A2 : Option Addr} {m c2 : Nat} (hx : evl N s X = .slice A2 m c2)
    (hA : 0 < m → A2 = some ⟨g, n * d.sz, none⟩) (hfit : n + m ≤ c) (ht : P.underlying t = some (.slice e)) (z : Value) (hinfo : (P.info? e).map (fun i => (i.zero, i.size)) = some (some z, d.sz)) (hz : z.cells.size = d.sz) (hone : z.cells.all (·.oneCell') = true)
    (h : ∀ W', Hp w0 cs W' → WL P ops Q rest (fr N s) W') : WL P ops Q (o :: rest) (fr N s) W := by
  refine ⟨?_⟩
  obtain ⟨h1, h2⟩ := noB_spec hk
  obtain ⟨w1, hr1, hp1⟩ := clear_run (P := P) (ty := o.type) hp i hc (c2 := c2) hA hfit ht z hinfo hz hone
  refine wpList_plain h1 fun K hK => ?_
  unfold Oper.wp execOp
  rw [fr_eval]
  simp only [ho, resolve, invoke, builtin, Sem.run_bind, Sem.run_pure, Result.andThen_ok, List.map_toArray, List.map_cons, List.map_nil, hx, hr1]
  show K ((fr N s).put o.dst _) w1
  rw [h2]
  exact hK _ _ (h w1 hp1).out
end
end Go.Proofs.YtkjaahmlnbgnjaaGreat.Hd
namespace Go.Proofs.YtkjaahmlnbgnjaaGreat.Hd
open Go.RowKit Go.Proofs.YtkjaahmlnbgnjaaGreat.Pure Go.Proofs.YtkjaahmlnbgnjaaGreatW.PrintWords Go.Proofs.YtkjaahmlnbgnjaaGreatW.PrintLast Go.Proofs.YtkjaahmlnbgnjaaGreatW.PrintMore
set_option linter.unusedVariables false
set_option linter.unusedSimpArgs false
theorem out_not (t x : S_Tile) : (!outT t x) = ((x.f0 == t.f0) && (x.f1 == t.f1)) := by unfold outT; simp
set_option maxRecDepth 100000 in
set_option maxHeartbeats 40000000 in
theorem gone_sx {w0 W : World} {cs : List Chunk} (gm : Nat) (x : S_plLay) (hx : x.f2 = false) (hg : goodT x.f0 = true) (t : S_Tile) (hp : Hp w0 (blk gm #[.string (txt x)] 9 :: cs) W) :
    Calls Tryz.prog 66 #[.agg #[.int .i64 t.f0, .int .i64 t.f1], .pointer (some ⟨gm, 0, none⟩)] W fun e W' => e = .returned (.bool (!outT x.f0 t)) ∧ Hp w0 (blk gm #[.string (txt x)] 9 :: cs) W' := by
  refine sx_enter (N := 8) (l := [.agg #[.int .i64 t.f0, .int .i64 t.f1], .pointer (some ⟨gm, 0, none⟩)]) Tryz.func66 rfl rfl rfl ?_
  refine wp_seq ?_
  refine sx_region ?_
  refine sx_box 2 hp #[.int .i64 t.f0, .int .i64 t.f1] 59 (by rfl) (fun W => by kernel_rfl) ?_
  intro g_1 W_2 hp
  refine sx_rd 3 (.bool false) (by rfl) (by kernel_rfl) ?_
  refine sx_nil ?_
  refine ex_then_n ?_
  refine wp_seq ?_
  refine sx_drawT [] (.rd 0 (.rd 1 (.alt 2 (.rd 3 (.rd 4 (.fin))) .non))) 5 (C := Hp w0 (blk g_1 #[.int .i64 t.f0, .int .i64 t.f1] 59 :: blk gm #[.string (txt x)] 9 :: cs)) (by kernel_rfl) (by kernel_rfl) (fun d _ _ _ _ h => by cases d <;> exact h) (fun W h => h.drew) hp ?_
  refine preI_nil ?_
  intro W_3 hp
  refine treeI_rd rfl ?_
  refine sxq_val 4 (.agg #[.int .i64 t.f0, .int .i64 t.f1]) (by rfl) (fun W hp => (ldn (t := 59) (p := (.tmp 2)) (by rfl) (by rfl) (by kernel_rfl) (by kernel_rfl) (by kernel_rfl) (hp.at_ 0 _ (by rfl)))) ?_
  refine sxq_nil ?_
  refine treeI_rd rfl ?_
  refine sxq_val 5 (.string (txt x)) (by rfl) (fun W hp => (ld1 (t := 9) (p := (.tmp 1)) (by rfl) (by rfl) (by kernel_rfl) (hp.cell 1 (by rfl) 0 _ (by rfl)))) ?_
  refine sxq_nil ?_
  refine treeI_ev rfl ?_
  refine sx_call 6 (by rfl) (by kernel_rfl) ((impl_moved.calls (txt x) _ _ _ ((moved_eq hx hg).1)).mono ?_)
  rintro _ W_4 ⟨rfl, hb⟩
  refine ⟨_, rfl, ?_⟩
  replace hp := hp.below hb
  clear hb
  refine step_fin hp ?_
  refine treeI_rd rfl ?_
  refine sxq_val 7 (.bool ((t.f0 == x.f0.f0) && (t.f1 == x.f0.f1))) (by rfl) (fun W hp => (eqagg_run (by rfl) (by rfl) (by rfl) (fun d w => eqA59 d w _ _ _ _) (by kernel_rfl))) ?_
  refine sxq_nil ?_
  refine treeI_rd rfl ?_
  refine sxq_val 3 (.bool ((t.f0 == x.f0.f0) && (t.f1 == x.f0.f1))) (by rfl) (fun W hp => (by kernel_rfl)) ?_
  refine sxq_nil ?_
  refine treeI_fin ?_
  refine sx_nil ?_
  refine ex_then_n ?_
  refine wp_ret ?_
  refine sx_end (.bool ((t.f0 == x.f0.f0) && (t.f1 == x.f0.f1))) (res1 3 (by rfl)) ?_
  exact ⟨congrArg (fun b => Ending.returned (.bool b)) (out_not x.f0 t).symm, (hp.take [1] 2 (by decide) (by simp))⟩
set_option maxRecDepth 100000 in
set_option maxHeartbeats 40000000 in
theorem idxF_sx {w0 W : World} {cs : List Chunk} (gm : Nat) (x : S_plLay) (hx : x.f2 = false) (hg : goodT x.f0 = true) {base c : Nat} {A : Option Addr} {l0 : List S_Tile} {F : Nat → Prop} (hn : l0.length ≤ 1000000) (hp : Hp w0 (row k59 59 base (.slice A l0.length c) l0 F :: blk gm #[.string (txt x)] 9 :: cs) W) :
    Calls Tryz.prog 90 #[.slice A l0.length c, .func (.func 66) #[] #[.pointer (some ⟨gm, 0, none⟩)]] W fun e W' => e = .returned (.int .i64 (goneAt l0 x.f0)) ∧ Hp w0 (row k59 59 base (.slice A l0.length c) l0 F :: blk gm #[.string (txt x)] 9 :: cs) W' := by
  refine sx_enter (N := 19) (l := [.slice A l0.length c, .func (.func 66) #[] #[.pointer (some ⟨gm, 0, none⟩)]]) Tryz.func90 rfl rfl rfl ?_
  refine wp_seq ?_
  refine sx_region ?_
  refine sx_rd 4 (.int .i64 0) (by rfl) (by kernel_rfl) ?_
  refine sx_nil ?_
  refine ex_then_n ?_
  refine wp_seq ?_
  refine wp_seq ?_
  refine sx_region ?_
  refine sx_rd 6 (.slice A l0.length c) (by rfl) (by kernel_rfl) ?_
  refine sx_rd 7 (.int .i64 (l0.length : Int)) (by rfl) (by kernel_rfl) ?_
  refine sx_rd 8 (.int .i64 0) (by rfl) (by kernel_rfl) ?_
  refine sx_nil ?_
  refine ex_then_n ?_
  refine wp_block ?_
  refine wp_loop_ghost (fun n a W => ∃ (r : List (Nat × Value)) (i : Nat) , n = l0.length - i ∧ a = fr 19 ([(0, .slice A l0.length c), (1, .func (.func 66) #[] #[.pointer (some ⟨gm, 0, none⟩)]), (7, .int .i64 (l0.length : Int)), (8, .int .i64 (i : Int))] ++ r) ∧ Hp w0 (row k59 59 base (.slice A l0.length c) l0 F :: blk gm #[.string (txt x)] 9 :: cs) W ∧ (i ≤ l0.length) ∧ (∀ j, j < i → outT x.f0 (rd_Tile l0 (j : Int)) = true)) _ ⟨_, 0, rfl, fr_front [(0, .slice A l0.length c), (1, .func (.func 66) #[] #[.pointer (some ⟨gm, 0, none⟩)]), (7, .int .i64 (l0.length : Int)), (8, .int .i64 0)] ⟨rfl, rfl, rfl, rfl, trivial⟩, (hp.take [0, 1] 2 (by decide) (by simp)), Nat.zero_le _, (fun j hj => absurd hj (Nat.not_lt_zero _))⟩ ?_
  rintro _ _ W_1 ⟨r, i, rfl, rfl, hp, hi, hall⟩
  refine wp_seq ?_
  refine sx_region ?_
  refine sx_rd 9 (.bool (decide ((i : Int) < (l0.length : Int)))) (by rfl) (by kernel_rfl) ?_
  refine sx_nil ?_
  refine ex_then_n ?_
  refine wp_seq ?_
  refine sx_cond (decide ((i : Int) < (l0.length : Int))) (by rfl) (fun c_2 => ?_) (fun c_2 => ?_)
  ·
    have c_2p := of_decide_eq_true c_2
    refine wp_skip ?_
    refine ex_then_n ?_
    refine wp_seq ?_
    refine wp_block ?_
    refine wp_seq ?_
    refine sx_region ?_
    refine sx_rd 10 (.int .i64 (i : Int)) (by rfl) (by kernel_rfl) ?_
    refine sx_rd 5 (.int .i64 (i : Int)) (by rfl) (by kernel_rfl) ?_
    refine sx_nil ?_
    refine ex_then_n ?_
    refine wp_seq ?_
    refine sx_region ?_
    refine sx_rd 11 (.func (.func 66) #[] #[.pointer (some ⟨gm, 0, none⟩)]) (by rfl) (by kernel_rfl) ?_
    refine sx_rd 12 (.slice A l0.length c) (by rfl) (by kernel_rfl) ?_
    refine sx_rd 13 (.int .i64 (i : Int)) (by rfl) (by kernel_rfl) ?_
    refine sx_rd 14 (.pointer (some (adr A (i : Int) 2))) (by rfl) (ix_run (d := k59) (row_C (hp.at_ 0 _ (by rfl))) (t := 27) (by rfl) (by rfl) (by rfl) Tryz.underlying27 (by kernel_rfl) (by omega) (by omega)) ?_
    refine sx_rd 15 (.agg #[.int .i64 ((rd_Tile l0 (i : Int)).f0), .int .i64 ((rd_Tile l0 (i : Int)).f1)]) (by rfl) (el_run (d := k59) (row_C (hp.at_ 0 _ (by rfl))) z59 (i : Int) (by omega) (by omega) (cells := [.int .i64 ((rd_Tile l0 (i : Int)).f0), .int .i64 ((rd_Tile l0 (i : Int)).f1)]) (fun cs h => k59_open h) 0 [.int .i64 ((rd_Tile l0 (i : Int)).f0), .int .i64 ((rd_Tile l0 (i : Int)).f1)] (by rfl) (t := 59) (p := (.tmp 14)) (by rfl) (by rfl) (by kernel_rfl) (by kernel_rfl)) ?_
    refine sx_call 16 (by rfl) (by kernel_rfl) ((gone_sx gm x hx hg (rd_Tile l0 (i : Int)) (hp.take [1, 0] 2 (by decide) (by simp))).mono ?_)
    rintro _ W_3 ⟨rfl, hp⟩
    refine ⟨_, rfl, ?_⟩
    replace hp : Hp w0 (row k59 59 base (.slice A l0.length c) l0 F :: blk gm #[.string (txt x)] 9 :: cs) _ := (hp.take [1, 0] 2 (by decide) (by simp))
    refine sx_nil ?_
    refine ex_then_n ?_
    refine sx_cond (!outT x.f0 (rd_Tile l0 (i : Int))) (by rfl) (fun c_4 => ?_) (fun c_4 => ?_)
    ·
      refine wp_seq ?_
      refine sx_region ?_
      refine sx_rd 17 (.int .i64 (i : Int)) (by rfl) (by kernel_rfl) ?_
      refine sx_rd 4 (.int .i64 (i : Int)) (by rfl) (by kernel_rfl) ?_
      refine sx_nil ?_
      refine ex_then_n ?_
      refine wp_ret ?_
      refine ex_blk_r (ex_then_r (ex_then_r (ex_blk_r (ex_then_r ?_))))
      refine sx_end (.int .i64 (i : Int)) (res1 4 (by rfl)) ?_
      exact ⟨congrArg (fun z => Ending.returned (.int .i64 z)) (goneAt_hit (by omega) hall (by simpa using c_4)).symm, (hp.take [0, 1] 2 (by decide) (by simp))⟩
    ·
      refine wp_skip ?_
      refine ex_blk_n ?_
      refine ex_then_n ?_
      refine sx_region ?_
      refine sx_rd 18 (.int .i64 ((i : Int) + 1)) (by rfl) (wr_ok (by omega) (by kernel_rfl)) ?_
      refine sx_rd 8 (.int .i64 ((i : Int) + 1)) (by rfl) (by kernel_rfl) ?_
      refine sx_nil ?_
      refine ex_then_n ?_
      exact ⟨_, (by omega), _, (i + 1), rfl, fr_front [(0, .slice A l0.length c), (1, .func (.func 66) #[] #[.pointer (some ⟨gm, 0, none⟩)]), (7, .int .i64 (l0.length : Int)), (8, .int .i64 ((i + 1 : Nat) : Int))] ⟨rfl, rfl, rfl, rfl, trivial⟩, (hp.take [0, 1] 2 (by decide) (by simp)), (by omega), (fun j hj => by rcases Nat.lt_succ_iff_lt_or_eq.1 hj with q | rfl; exact hall j q; exact (by simpa using c_4))⟩
  ·
    have c_2p := of_decide_eq_false c_2
    refine wp_exit ?_
    refine ex_then_e (ex_then_e (ex_blk_here ?_))
    refine ex_then_n ?_
    refine wp_seq ?_
    refine sx_region ?_
    refine sx_rd 4 (.int .i64 (-1)) (by rfl) (by kernel_rfl) ?_
    refine sx_nil ?_
    refine ex_then_n ?_
    refine wp_ret ?_
    refine sx_end (.int .i64 (-1)) (res1 4 (by rfl)) ?_
    obtain rfl : i = l0.length := by omega
    exact ⟨congrArg (fun z => Ending.returned (.int .i64 z)) (goneAt_none hall).symm, (hp.take [0, 1] 2 (by decide) (by simp))⟩
theorem add_at2 (g n : Nat) : Option.map (fun x : Addr => x.add (n * 2)) (some ⟨g, 0, none⟩) = some ⟨g, n * 2, none⟩ := by
  simp only [Option.map_some, Addr.add]
  split
  · rename_i h; rw [h]
  · simp
set_option maxRecDepth 100000 in
set_option maxHeartbeats 40000000 in
theorem delF_sx {w0 W : World} {cs : List Chunk} (gm : Nat) (x : S_plLay) (hx : x.f2 = false) (hg : goodT x.f0 = true) {base c : Nat} {A : Option Addr} {l0 : List S_Tile} {F : Nat → Prop} (hn : l0.length ≤ 1000000) (hp : Hp w0 (row k59 59 base (.slice A l0.length c) l0 F :: blk gm #[.string (txt x)] 9 :: cs) W) :
    Calls Tryz.prog 68 #[.slice A l0.length c, .func (.func 66) #[] #[.pointer (some ⟨gm, 0, none⟩)]] W fun e W' => ∃ F', e = .returned (.slice A (gone1 l0 x.f0).length c) ∧ Hp w0 (row k59 59 base (.slice A (gone1 l0 x.f0).length c) (gone1 l0 x.f0) F' :: blk gm #[.string (txt x)] 9 :: cs) W' := by
  have hcap := (row_len (hp.at_ 0 _ (by rfl))).2
  refine sx_enter (N := 42) (l := [.slice A l0.length c, .func (.func 66) #[] #[.pointer (some ⟨gm, 0, none⟩)]]) Tryz.func68 rfl rfl rfl ?_
  refine wp_seq ?_
  refine sx_region ?_
  refine sx_rd 4 (.slice none 0 0) (by rfl) (by kernel_rfl) ?_
  refine sx_nil ?_
  refine ex_then_n ?_
  refine wp_seq ?_
  refine sx_region ?_
  refine sx_rd 8 (.slice A l0.length c) (by rfl) (by kernel_rfl) ?_
  refine sx_rd 9 (.func (.func 66) #[] #[.pointer (some ⟨gm, 0, none⟩)]) (by rfl) (by kernel_rfl) ?_
  refine sx_call 10 (by rfl) (by kernel_rfl) ((idxF_sx gm x hx hg hn (hp.take [0, 1] 2 (by decide) (by simp))).mono ?_)
  rintro _ W_1 ⟨rfl, hp⟩
  refine ⟨_, rfl, ?_⟩
  refine sx_rd 5 (.int .i64 (goneAt l0 x.f0)) (by rfl) (by kernel_rfl) ?_
  refine sx_nil ?_
  refine ex_then_n ?_
  refine wp_seq ?_
  refine wp_seq ?_
  refine sx_region ?_
  refine sx_rd 11 (.int .i64 (goneAt l0 x.f0)) (by rfl) (by kernel_rfl) ?_
  refine sx_rd 12 (.bool ((goneAt l0 x.f0) == (-1))) (by rfl) (by kernel_rfl) ?_
  refine sx_nil ?_
  refine ex_then_n ?_
  refine sx_cond ((goneAt l0 x.f0) == (-1)) (by rfl) (fun c_2 => ?_) (fun c_2 => ?_)
  ·
    have c_2p := eq_of_beq_ c_2
    refine wp_seq ?_
    refine sx_region ?_
    refine sx_rd 13 (.slice A l0.length c) (by rfl) (by kernel_rfl) ?_
    refine sx_rd 4 (.slice A l0.length c) (by rfl) (by kernel_rfl) ?_
    refine sx_nil ?_
    refine ex_then_n ?_
    refine wp_ret ?_
    refine ex_then_r ?_
    refine sx_end (.slice A l0.length c) (res1 4 (by rfl)) ?_
    have hg1 := goneAt_neg c_2p
    exact ⟨_, by rw [hg1], by rw [hg1]; exact hp⟩
  ·
    have c_2p := ne_of_beq_ c_2
    obtain ⟨i0, hi0, hlt, hall, hno⟩ := goneAt_pos c_2p
    rw [hi0]
    obtain ⟨g, rfl⟩ := row_form (hp.at_ 0 _ (by rfl)) (by omega)
    have hst := dl_start hlt hall hno
    refine wp_skip ?_
    refine ex_then_n ?_
    refine wp_seq ?_
    refine wp_seq ?_
    refine sx_region ?_
    refine sx_rd 14 (.int .i64 (i0 : Int)) (by rfl) (by kernel_rfl) ?_
    refine sx_rd 15 (.int .i64 ((i0 : Int) + 1)) (by rfl) (wr_ok (by omega) (by kernel_rfl)) ?_
    refine sx_rd 6 (.int .i64 ((i0 : Int) + 1)) (by rfl) (by kernel_rfl) ?_
    refine sx_nil ?_
    refine ex_then_n ?_
    refine wp_block ?_
    have e0_3 : l0 = (dl x.f0 l0 (i0 + 1)).1 := (by rw [hst])
    have hp : Hp w0 (row k59 59 base (.slice (some ⟨g, 0, none⟩) l0.length c) ((dl x.f0 l0 (i0 + 1)).1) F :: blk gm #[.string (txt x)] 9 :: cs) W_1 := by rw [← e0_3]; exact hp
    refine wp_loop_ghost (fun n a W => ∃ (r : List (Nat × Value)) (i : Nat) (Fi0 : Nat → Prop), n = l0.length - i ∧ a = fr 42 ([(0, .slice (some ⟨g, 0, none⟩) l0.length c), (1, .func (.func 66) #[] #[.pointer (some ⟨gm, 0, none⟩)]), (5, .int .i64 ((dl x.f0 l0 i).2 : Int)), (6, .int .i64 (i : Int))] ++ r) ∧ Hp w0 (row k59 59 base (.slice (some ⟨g, 0, none⟩) l0.length c) ((dl x.f0 l0 i).1) Fi0 :: blk gm #[.string (txt x)] 9 :: cs) W ∧ (i ≤ l0.length)) _ ⟨_, (i0 + 1), _, rfl, fr_front [(0, .slice (some ⟨g, 0, none⟩) l0.length c), (1, .func (.func 66) #[] #[.pointer (some ⟨gm, 0, none⟩)]), (5, .int .i64 ((dl x.f0 l0 (i0 + 1)).2 : Int)), (6, .int .i64 (((i0 + 1) : Nat) : Int))] ⟨rfl, rfl, (by exact congrArg (Value.int .i64) (show (i0 : Int) = ((dl x.f0 l0 (i0 + 1)).2 : Int) from (by rw [hst]))), rfl, trivial⟩, (hp.take [0, 1] 2 (by decide) (by simp)), (by omega)⟩ ?_
    rintro _ _ W_4 ⟨r, i, Fi0, rfl, rfl, hp, hi⟩
    have hinv := dl_inv x.f0 l0 i (by omega)
    obtain ⟨hl1, hl2, -, -, -⟩ := hinv
    refine wp_seq ?_
    refine wp_seq ?_
    refine sx_region ?_
    refine sx_rd 16 (.int .i64 (i : Int)) (by rfl) (by kernel_rfl) ?_
    refine sx_rd 17 (.slice (some ⟨g, 0, none⟩) l0.length c) (by rfl) (by kernel_rfl) ?_
    refine sx_rd 18 (.int .i64 (l0.length : Int)) (by rfl) (by kernel_rfl) ?_
    refine sx_rd 19 (.bool (decide ((i : Int) < (l0.length : Int)))) (by rfl) (by kernel_rfl) ?_
    refine sx_nil ?_
    refine ex_then_n ?_
    refine sx_cond (decide ((i : Int) < (l0.length : Int))) (by rfl) (fun c_5 => ?_) (fun c_5 => ?_)
    ·
      have c_5p := of_decide_eq_true c_5
      refine wp_skip ?_
      refine ex_then_n ?_
      refine wp_seq ?_
      refine wp_block ?_
      refine wp_seq ?_
      refine sx_region ?_
      refine sx_rd 22 (.slice (some ⟨g, 0, none⟩) l0.length c) (by rfl) (by kernel_rfl) ?_
      refine sx_rd 23 (.int .i64 (i : Int)) (by rfl) (by kernel_rfl) ?_
      refine sx_rd 24 (.pointer (some (adr (some ⟨g, 0, none⟩) (i : Int) 2))) (by rfl) (ix_run (d := k59) (row_Cn (hp.at_ 0 _ (by rfl))) (t := 27) (by rfl) (by rfl) (by rfl) Tryz.underlying27 (by kernel_rfl) (by omega) (by omega)) ?_
      refine sx_rd 25 (.agg #[.int .i64 ((rd_Tile ((dl x.f0 l0 i).1) (i : Int)).f0), .int .i64 ((rd_Tile ((dl x.f0 l0 i).1) (i : Int)).f1)]) (by rfl) (el_run (d := k59) (row_C (hp.at_ 0 _ (by rfl))) z59 (i : Int) (by omega) (by omega) (cells := [.int .i64 ((rd_Tile ((dl x.f0 l0 i).1) (i : Int)).f0), .int .i64 ((rd_Tile ((dl x.f0 l0 i).1) (i : Int)).f1)]) (fun cs h => k59_open h) 0 [.int .i64 ((rd_Tile ((dl x.f0 l0 i).1) (i : Int)).f0), .int .i64 ((rd_Tile ((dl x.f0 l0 i).1) (i : Int)).f1)] (by rfl) (t := 59) (p := (.tmp 24)) (by rfl) (by rfl) (by kernel_rfl) (by kernel_rfl)) ?_
      refine sx_box 7 hp #[.int .i64 0, .int .i64 0] 59 (by rfl) (fun W => by kernel_rfl) ?_
      intro g_6 W_7 hp
      refine sx_store (t := 59) (p := (.tmp 7)) (x := (.tmp 25)) (by rfl) (by rfl) 0 (by rfl) 0 [.int .i64 ((rd_Tile ((dl x.f0 l0 i).1) (i : Int)).f0), .int .i64 ((rd_Tile ((dl x.f0 l0 i).1) (i : Int)).f1)] (by rfl) (by rfl) (by kernel_rfl) (by simp [Value.oneCell']) (by show 2 ≤ 2; omega) #[.int .i64 ((rd_Tile ((dl x.f0 l0 i).1) (i : Int)).f0), .int .i64 ((rd_Tile ((dl x.f0 l0 i).1) (i : Int)).f1)] (by rfl) hp ?_
      intro W_8 hp; simp only [List.set_cons_succ, List.set_cons_zero] at hp
      refine sx_nil ?_
      refine ex_then_n ?_
      refine wp_seq ?_
      refine sx_region ?_
      refine sx_rd 26 (.func (.func 66) #[] #[.pointer (some ⟨gm, 0, none⟩)]) (by rfl) (by kernel_rfl) ?_
      refine sx_rd 27 (.agg #[.int .i64 ((rd_Tile ((dl x.f0 l0 i).1) (i : Int)).f0), .int .i64 ((rd_Tile ((dl x.f0 l0 i).1) (i : Int)).f1)]) (by rfl) (ldn (t := 59) (p := (.tmp 7)) (by rfl) (by rfl) (by kernel_rfl) (by kernel_rfl) (by kernel_rfl) (hp.at_ 0 _ (by rfl))) ?_
      refine sx_call 28 (by rfl) (by kernel_rfl) ((gone_sx gm x hx hg (rd_Tile ((dl x.f0 l0 i).1) (i : Int)) (hp.take [2, 0, 1] 3 (by decide) (by simp))).mono ?_)
      rintro _ W_9 ⟨rfl, hp⟩
      refine ⟨_, rfl, ?_⟩
      replace hp : Hp w0 (blk g_6 #[.int .i64 ((rd_Tile ((dl x.f0 l0 i).1) (i : Int)).f0), .int .i64 ((rd_Tile ((dl x.f0 l0 i).1) (i : Int)).f1)] 59 :: row k59 59 base (.slice (some ⟨g, 0, none⟩) l0.length c) ((dl x.f0 l0 i).1) Fi0 :: blk gm #[.string (txt x)] 9 :: cs) _ := (hp.take [1, 2, 0] 3 (by decide) (by simp))
      refine sx_rd 29 (.bool (!(!outT x.f0 (rd_Tile ((dl x.f0 l0 i).1) (i : Int))))) (by rfl) (by kernel_rfl) ?_
      refine sx_nil ?_
      refine ex_then_n ?_
      refine sx_cond (!(!outT x.f0 (rd_Tile ((dl x.f0 l0 i).1) (i : Int)))) (by rfl) (fun c_10 => ?_) (fun c_10 => ?_)
      ·
        refine wp_seq ?_
        refine sx_region ?_
        refine sx_rd 30 (.slice (some ⟨g, 0, none⟩) l0.length c) (by rfl) (by kernel_rfl) ?_
        refine sx_rd 31 (.int .i64 ((dl x.f0 l0 i).2 : Int)) (by rfl) (by kernel_rfl) ?_
        refine sx_rd 32 (.agg #[.int .i64 ((rd_Tile ((dl x.f0 l0 i).1) (i : Int)).f0), .int .i64 ((rd_Tile ((dl x.f0 l0 i).1) (i : Int)).f1)]) (by rfl) (ldn (t := 59) (p := (.tmp 7)) (by rfl) (by rfl) (by kernel_rfl) (by kernel_rfl) (by kernel_rfl) (hp.at_ 0 _ (by rfl))) ?_
        refine sx_rd 33 (.pointer (some (adr (some ⟨g, 0, none⟩) ((dl x.f0 l0 i).2 : Int) 2))) (by rfl) (ix_run (d := k59) (row_Cn (hp.at_ 1 _ (by rfl))) (t := 27) (by rfl) (by rfl) (by rfl) Tryz.underlying27 (by kernel_rfl) (by omega) (by omega)) ?_
        refine sx_rowstore (t := 59) (p := (.tmp 33)) (x := (.tmp 32)) (by rfl) (by rfl) 1 k59 (by rfl) ((dl x.f0 l0 i).2 : Int) (rd_Tile ((dl x.f0 l0 i).1) (i : Int)) [.int .i64 ((rd_Tile ((dl x.f0 l0 i).1) (i : Int)).f0), .int .i64 ((rd_Tile ((dl x.f0 l0 i).1) (i : Int)).f1)] (by rfl) (by rfl) (by kernel_rfl) (by simp [Value.oneCell']) (by rfl) (by omega) (by omega) z59 (fun _ => (k59_mkM _ _ _ _)) hp ?_
        intro F_11 W_12 hp; simp only [List.set_cons_succ, List.set_cons_zero] at hp
        refine sx_nil ?_
        refine ex_then_n ?_
        refine sx_region ?_
        refine sx_rd 34 (.int .i64 ((dl x.f0 l0 i).2 : Int)) (by rfl) (by kernel_rfl) ?_
        refine sx_rd 35 (.int .i64 (((dl x.f0 l0 i).2 : Int) + 1)) (by rfl) (wr_ok (by omega) (by kernel_rfl)) ?_
        refine sx_rd 5 (.int .i64 (((dl x.f0 l0 i).2 : Int) + 1)) (by rfl) (by kernel_rfl) ?_
        refine sx_nil ?_
        refine ex_blk_n ?_
        refine ex_then_n ?_
        refine sx_region ?_
        refine sx_rd 20 (.int .i64 (i : Int)) (by rfl) (by kernel_rfl) ?_
        refine sx_rd 21 (.int .i64 ((i : Int) + 1)) (by rfl) (wr_ok (by omega) (by kernel_rfl)) ?_
        refine sx_rd 6 (.int .i64 ((i : Int) + 1)) (by rfl) (by kernel_rfl) ?_
        refine sx_nil ?_
        refine ex_then_n ?_
        have hq_13 : (((dl x.f0 l0 i).2 : Int) + 1) = ((dl x.f0 l0 (i + 1)).2 : Int) := by simp only [dl]; rw [if_pos (by have q := (not_eq c_10); simpa using q)] <;> simp
        have hq_14 : ((dl x.f0 l0 i).1.set (((dl x.f0 l0 i).2 : Int)).toNat (rd_Tile ((dl x.f0 l0 i).1) (i : Int))) = (dl x.f0 l0 (i + 1)).1 := by simp only [dl]; rw [if_pos (by have q := (not_eq c_10); simpa using q)] <;> simp
        rw [hq_14] at hp
        exact ⟨_, (by omega), _, (i + 1), _, rfl, fr_front [(0, .slice (some ⟨g, 0, none⟩) l0.length c), (1, .func (.func 66) #[] #[.pointer (some ⟨gm, 0, none⟩)]), (5, .int .i64 ((dl x.f0 l0 (i + 1)).2 : Int)), (6, .int .i64 ((i + 1 : Nat) : Int))] ⟨rfl, rfl, congrArg (Value.int .i64) hq_13, rfl, trivial⟩, (hp.take [1, 2] 3 (by decide) (by simp)), (by omega)⟩
      ·
        refine wp_skip ?_
        refine ex_blk_n ?_
        refine ex_then_n ?_
        refine sx_region ?_
        refine sx_rd 20 (.int .i64 (i : Int)) (by rfl) (by kernel_rfl) ?_
        refine sx_rd 21 (.int .i64 ((i : Int) + 1)) (by rfl) (wr_ok (by omega) (by kernel_rfl)) ?_
        refine sx_rd 6 (.int .i64 ((i : Int) + 1)) (by rfl) (by kernel_rfl) ?_
        refine sx_nil ?_
        refine ex_then_n ?_
        have hq_15 : ((dl x.f0 l0 i).2 : Int) = ((dl x.f0 l0 (i + 1)).2 : Int) := by simp only [dl]; rw [if_neg (by have q := (not_eq c_10); simp at q; rw [q]; simp)]
        have hq_16 : (dl x.f0 l0 i).1 = (dl x.f0 l0 (i + 1)).1 := by simp only [dl]; rw [if_neg (by have q := (not_eq c_10); simp at q; rw [q]; simp)]
        rw [hq_16] at hp
        exact ⟨_, (by omega), _, (i + 1), _, rfl, fr_front [(0, .slice (some ⟨g, 0, none⟩) l0.length c), (1, .func (.func 66) #[] #[.pointer (some ⟨gm, 0, none⟩)]), (5, .int .i64 ((dl x.f0 l0 (i + 1)).2 : Int)), (6, .int .i64 ((i + 1 : Nat) : Int))] ⟨rfl, rfl, congrArg (Value.int .i64) hq_15, rfl, trivial⟩, (hp.take [1, 2] 3 (by decide) (by simp)), (by omega)⟩
    ·
      have c_5p := of_decide_eq_false c_5
      refine wp_exit ?_
      refine ex_then_e (ex_then_e (ex_blk_here ?_))
      refine ex_then_n ?_
      refine wp_seq ?_
      refine sx_region ?_
      refine sx_rd 36 (.slice (some ⟨g, 0, none⟩) l0.length c) (by rfl) (by kernel_rfl) ?_
      refine sx_rd 37 (.int .i64 ((dl x.f0 l0 i).2 : Int)) (by rfl) (by kernel_rfl) ?_
      refine sx_rd 38 (.slice (if c = (dl x.f0 l0 i).2 then some ⟨g, 0, none⟩ else Option.map (fun y : Addr => y.add ((dl x.f0 l0 i).2 * 2)) (some ⟨g, 0, none⟩)) ((l0.drop (dl x.f0 l0 i).2).length) (c - (dl x.f0 l0 i).2)) (by rfl) (sl_lo (dl x.f0 l0 i).2 (sz := 2) (xs := l0) (by rfl) (by rfl) (by rfl) rfl Tryz.underlying27 (by kernel_rfl) (by omega)) ?_
      have hdl : (l0.drop (dl x.f0 l0 i).2).length = l0.length - (dl x.f0 l0 i).2 := List.length_drop
      have hp := hp.cut 0 (by rfl) (dl x.f0 l0 i).2 (by omega)
      simp only [List.set_cons_zero] at hp
      refine sx_clear0 (by rfl) hp 0 k59 (by rfl) (by rfl) (by rfl) (fun _ => by rw [if_neg (by omega)]; exact add_at2 _ _) (by omega) Tryz.underlying27 (.agg #[.int .i64 0, .int .i64 0]) (by kernel_rfl) (by rfl) (by first | decide | simp [Value.cells, Value.oneCell'] | kernel_rfl) ?_
      intro W_17 hp
      refine sx_nil ?_
      refine ex_then_n ?_
      refine wp_seq ?_
      refine sx_region ?_
      refine sx_rd 39 (.slice (some ⟨g, 0, none⟩) l0.length c) (by rfl) (by kernel_rfl) ?_
      refine sx_rd 40 (.int .i64 ((dl x.f0 l0 i).2 : Int)) (by rfl) (by kernel_rfl) ?_
      refine sx_rd 41 (.slice (some ⟨g, 0, none⟩) ((l0.take (dl x.f0 l0 i).2).length) c) (by rfl) (sl_hi (dl x.f0 l0 i).2 (sz := 2) (xs := l0) (by rfl) (by rfl) (by rfl) rfl Tryz.underlying27 (by kernel_rfl) (by omega) hcap) ?_
      refine sx_rd 4 (.slice (some ⟨g, 0, none⟩) ((l0.take (dl x.f0 l0 i).2).length) c) (by rfl) (by kernel_rfl) ?_
      refine sx_nil ?_
      refine ex_then_n ?_
      refine wp_ret ?_
      refine sx_end (.slice (some ⟨g, 0, none⟩) ((l0.take (dl x.f0 l0 i).2).length) c) (res1 4 (by rfl)) ?_
      obtain rfl : i = l0.length := by omega
      obtain ⟨e1, e2⟩ := dl_end x.f0 l0
      rw [e1, e2] at hp
      exact ⟨_, by rw [List.length_take, e2, Nat.min_eq_left (gone1_len l0 x.f0)], hp⟩
end Go.Proofs.YtkjaahmlnbgnjaaGreat.Hd
