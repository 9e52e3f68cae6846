/- impl.Game.behind, by hand. -/
import Derived.Test.YtjaojemmbeddfaaGreatPEv
import Derived.Test.YtjaojemmbeddfaaGreatG0
import Derived.Test.YtjaojemmbeddfaaGreatPTile
import Derived.Test.YtjaojemmbeddfaaGreatPMovedE
import Derived.Test.YtjaojemmbeddfaaGreatG4
import Derived.Test.YtjaojemmbeddfaaGreatMGrowInt
import Derived.Test.YtjaojemmbeddfaaGreatG1
import Derived.Test.YtjaojemmbeddfaaGreatMSx5
import Derived.Test.YtjaojemmbeddfaaGreatMTileR
import Derived.Test.YtjaojemmbeddfaaGreatMSx3
import Derived.Laws.OwnMore
namespace Go.Proofs.YtjaojemmbeddfaaGreat.Hd
open Go.RowKit Go.Proofs.YtjaojemmbeddfaaGreatW.PrintWords Go.Proofs.YtjaojemmbeddfaaGreatW.PrintLast Go.Proofs.YtjaojemmbeddfaaGreatW.PrintMore
set_option linter.unusedVariables false
set_option linter.unusedSimpArgs false
theorem Reps.take_ {α : Type} {R : α → List Value → Prop} {size : Nat} {ps : List α} {cs : List Value} (h : Reps R size ps cs) (m : Nat) (hm : m ≤ ps.length) : Reps R size (ps.take m) (cs.take (m * size)) := by
  have hl : m * size ≤ cs.length := by rw [h.1]; exact Nat.mul_le_mul_right _ hm
  refine ⟨by rw [List.length_take, List.length_take, Nat.min_eq_left hl, Nat.min_eq_left hm], fun j p hj => ?_⟩
  rw [List.getElem?_take] at hj
  split at hj
  · rename_i hjm
    have h1 := h.2 j p hj
    have e : ((cs.take (m * size)).drop (j * size)).take size = (cs.drop (j * size)).take size := by
      rw [List.drop_take, List.take_take]
      congr 1
      have h2 : (j + 1) * size ≤ m * size := Nat.mul_le_mul_right _ hjm
      rw [Nat.add_mul, Nat.one_mul] at h2
      omega
    rw [e]; exact h1
  · cases hj
theorem own_cut {W : World} {base e size g n c : Nat} {inner : List Value} (h : W.ownsRow base e size (.slice (some ⟨g, 0, none⟩) n c) n inner) (k : Nat) (hk : k ≤ n) : W.ownsRow base e size (.slice (some ⟨g, 0, none⟩) k c) k (inner.take (k * size)) := by
  have hle : k * size ≤ n * size := Nat.mul_le_mul_right _ hk
  refine ⟨by rw [List.length_take, h.1]; exact Nat.min_eq_left hle, ?_⟩
  rcases h.2 with ⟨e0, _⟩ | ⟨g', cap, cur, e0, hb, hh, hnc, hcm, hcs, htk⟩
  · cases e0
  · injection e0 with e1 e2 e3
    injection e1 with e1
    injection e1 with e1
    subst e1; subst e3
    exact .inr ⟨g, c, cur, rfl, hb, hh, by omega, hcm, hcs, by rw [← htk, List.take_take, Nat.min_eq_left hle]⟩
theorem R_cut {α : Type} {d : Kd α} {e base g n c : Nat} {W : World} {ok : Nat → Prop} {xs : List α} (h : d.R e W base ok (.slice (some ⟨g, 0, none⟩) n c) xs) (k : Nat) (hk : k ≤ n) : d.R e W base ok (.slice (some ⟨g, 0, none⟩) k c) (xs.take k) := by
  have hn : n = xs.length := (Kd.R_reads' h).1
  obtain ⟨hok, inner, hown, hr⟩ := h
  subst hn
  refine ⟨hok, inner.take (k * d.sz), ?_, Reps.take_ hr k hk⟩
  have h2 := own_cut hown k hk
  have e1 : (xs.take k).length = k := by rw [List.length_take]; omega
  rw [e1]
  exact h2
section
variable {α : Type} {P : Program} {ops : Array Oper} {Q : Exit → Act → World → Prop} {N : Nat} {s : List (Nat × Value)} {rest : List Oper} {o : Oper} {w0 W W' : World} {cs : List Chunk}
theorem Hp.cut (hp : Hp w0 cs W) (i : Nat) {d : Kd α} {e base g n c : Nat} {xs : List α} {F : Nat → Prop} (hc : cs[i]? = some (row d e base (.slice (some ⟨g, 0, none⟩) n c) xs F)) (k : Nat) (hk : k ≤ n) : Hp w0 (cs.set i (row d e base (.slice (some ⟨g, 0, none⟩) k c) (xs.take k) F)) W :=
  have hrow := hp.at_ i _ hc
  hp.upd i _ _ hc (Mv.refl _ _) ⟨R_cut hrow.1 k hk, hrow.2⟩ (fun q hq => .inl hq)
/-- Cells behind a row are cleared: the row is as it was. -/
theorem clear_run (hp : Hp w0 cs W) (i : Nat) {d : Kd α} {e base g n c : Nat} {xs : List α} {F : Nat → Prop} (hc : cs[i]? = some (row d e base (.slice (some ⟨g, 0, none⟩) n c) xs F)) {t ty : TypeId} {A2 : Option Addr} {m c2 : Nat} (hA : 0 < m → A2 = some ⟨g, n * d.sz, none⟩) (hfit : n + m ≤ c)
    (ht : P.underlying t = some (.slice e)) (z : Value) (hinfo : (P.info? e).map (fun i => (i.zero, i.size)) = some (some z, d.sz)) (hz : z.cells.size = d.sz) (hone : z.cells.all (·.oneCell') = true) :
    ∃ W', (Builtin.clear_ #[t] ty #[.slice A2 m c2]).run P W = .ok (.tuple #[]) W' ∧ Hp w0 cs W' := by
  rcases Nat.eq_zero_or_pos m with h0 | h0
  · subst h0
    refine ⟨W, ?_, hp⟩
    cases A2 <;> simp [Builtin.clear_, run_underlying ht]
  · obtain rfl := hA h0
    have hrow := hp.at_ i _ hc
    obtain ⟨i0, hi, hzz⟩ := Option.map_eq_some_iff.1 hinfo
    simp only [Prod.mk.injEq] at hzz
    obtain ⟨hz0, hz1⟩ := hzz
    have hn : n = xs.length := (Kd.R_reads' hrow.1).1
    subst hn
    obtain ⟨⟨hok, inner, hown, hr⟩, hF⟩ := hrow
    rcases hown.2 with ⟨e0, _⟩ | ⟨g', cap, cur, e0, hb, hh, hnc, hcm, hcs, htk⟩
    · cases e0
    · injection e0 with e1 e2 e3
      injection e1 with e1
      injection e1 with e1
      subst e1; subst e3
      have hzs : (Builtin.zeroCells z.cells m).toList.length = m * d.sz := by
        rw [Array.length_toList, size_zeroCells, hz]
      have hle : xs.length * d.sz + m * d.sz ≤ cur.size := by rw [hcs, ← Nat.add_mul]; exact Nat.mul_le_mul_right _ hfit
      have h1 : ∀ v ∈ (Builtin.zeroCells z.cells m).toList, v.oneCell' = true := by
        intro v hv
        have hv2 : v ∈ Builtin.zeroCells z.cells m := by simpa using hv
        unfold Builtin.zeroCells at hv2
        obtain ⟨j, hj, rfl⟩ := Array.mem_map.1 hv2
        rw [Array.all_eq_true_iff_forall_mem] at hone
        have hj2 : j < m * z.cells.size := by simpa using hj
        have hzp : 0 < z.cells.size := Nat.pos_of_ne_zero (fun e => by rw [e] at hj2; omega)
        have hlt := Nat.mod_lt j hzp
        rw [getElem!_pos z.cells (j % z.cells.size) hlt]
        exact hone _ (Array.getElem_mem hlt)
      have hst := run_storeCells_at P g (xs.length * d.sz) e (Builtin.zeroCells z.cells m).toList 0 cur W hh (by rw [hzs]; simpa using hle) h1
      try simp only [Nat.add_zero] at hst
      have hcl : (Builtin.clear_ #[t] ty #[.slice (some ⟨g, xs.length * d.sz, none⟩) m c2]).run P W = .ok (.tuple #[]) (W.setRow g (cur.toList.take (xs.length * d.sz) ++ (Builtin.zeroCells z.cells m).toList ++ cur.toList.drop (xs.length * d.sz + (Builtin.zeroCells z.cells m).toList.length)).toArray) := by
        cases m with
        | zero => omega
        | succ m' => simp [Builtin.clear_, run_underlying ht, zeroValue, typeInfo, hi, hz0, hst]
      refine ⟨_, hcl, ?_⟩
      have key : cs.set i (row d e base (.slice (some ⟨g, 0, none⟩) xs.length c) xs F) = cs := by
        have hlt := (List.getElem?_eq_some_iff.1 hc)
        rw [← hlt.2]
        exact List.set_getElem_self hlt.1
      rw [← key]
      refine hp.upd i _ _ hc (⟨rfl, rfl, rfl, by simp, fun k _ hk => setRow_other W g k _ (fun e => hk (by subst e; exact hok k (by simp [Value.ownBlock])))⟩) ⟨⟨hok, inner, ?_, ?_⟩, fun k hk => by simpa using hF k hk⟩ (fun k hk => .inl hk)
      · refine ⟨hown.1, .inr ⟨g, c, _, rfl, hb, setRow_heap W g cur _ e _ hh, hnc, hcm, ?_, ?_⟩⟩
        · simp only [List.size_toArray, List.length_append, List.length_take, List.length_drop, Array.length_toList, hzs]
          omega
        · rw [← htk]
          have e2 : (cur.toList.take (xs.length * d.sz)).length = xs.length * d.sz := by rw [List.length_take, Array.length_toList]; exact Nat.min_eq_left (Nat.le_trans (Nat.le_add_right _ _) hle)
          show List.take (xs.length * d.sz) ((cur.toList.take (xs.length * d.sz) ++ (Builtin.zeroCells z.cells m).toList) ++ _) = _
          rw [List.append_assoc, List.take_append_of_le_length (Nat.le_of_eq e2.symm), List.take_of_length_le (Nat.le_of_eq e2)]
      · refine hr.imp_ (fun p q hq => ?_)
        exact d.M_mono (fun k hk => hk.1) (d.M_move (w1 := _) (fun k hk => setRow_other W g k _ (fun e => hk.1.2 (by rw [e]; rfl))) (d.M_bound hq))
theorem sx_clear0 (hk : noB o = true) (hp : Hp w0 cs W) (i : Nat) (d : Kd α) {e base g n c : Nat} {xs : List α} {F : Nat → Prop} (hc : cs[i]? = some (row d e base (.slice (some ⟨g, 0, none⟩) n c) xs F)) {X : Operand} {t : TypeId} (ho : o.op = .call { callee := .builtin .clear, args := #[X], argTypes := #[t] }) {A2 : Option Addr} {m c2 : Nat} (hx : evl N s X = .slice A2 m c2)
    (hA : 0 < m → A2 = some ⟨g, n * d.sz, none⟩) (hfit : n + m ≤ c) (ht : P.underlying t = some (.slice e)) (z : Value) (hinfo : (P.info? e).map (fun i => (i.zero, i.size)) = some (some z, d.sz)) (hz : z.cells.size = d.sz) (hone : z.cells.all (·.oneCell') = true)
    (h : ∀ W', Hp w0 cs W' → WL P ops Q rest (fr N s) W') : WL P ops Q (o :: rest) (fr N s) W := by
  refine ⟨?_⟩
  obtain ⟨h1, h2⟩ := noB_spec hk
  obtain ⟨w1, hr1, hp1⟩ := clear_run (P := P) (ty := o.type) hp i hc (c2 := c2) hA hfit ht z hinfo hz hone
  refine wpList_plain h1 fun K hK => ?_
  unfold Oper.wp execOp
  rw [fr_eval]
  simp only [ho, resolve, invoke, builtin, Sem.run_bind, Sem.run_pure, Result.andThen_ok, List.map_toArray, List.map_cons, List.map_nil, hx, hr1]
  show K ((fr N s).put o.dst _) w1
  rw [h2]
  exact hK _ _ (h w1 hp1).out
end
end Go.Proofs.YtjaojemmbeddfaaGreat.Hd
namespace Go.Proofs.YtjaojemmbeddfaaGreat.Hd
open Go.RowKit Go.Proofs.YtjaojemmbeddfaaGreat.Pure Go.Proofs.YtjaojemmbeddfaaGreatW.PrintWords Go.Proofs.YtjaojemmbeddfaaGreatW.PrintLast Go.Proofs.YtjaojemmbeddfaaGreatW.PrintMore
set_option linter.unusedVariables false
set_option linter.unusedSimpArgs false
theorem out_not (t x : S_Tile) : (!outT t x) = ((x.f0 == t.f0) && (x.f1 == t.f1)) := by unfold outT; simp
set_option maxRecDepth 100000 in
set_option maxHeartbeats 40000000 in
theorem gone_sx {w0 W : World} {cs : List Chunk} (gm : Nat) (x : S_plLay) (hx : x.f2 = false) (hg : goodT x.f0 = true) (t : S_Tile) (hp : Hp w0 (blk gm #[.string (txt x)] 9 :: cs) W) :
    Calls Tryz.prog 64 #[.agg #[.int .i64 t.f0, .int .i64 t.f1], .pointer (some ⟨gm, 0, none⟩)] W fun e W' => e = .returned (.bool (!outT x.f0 t)) ∧ Hp w0 (blk gm #[.string (txt x)] 9 :: cs) W' := by
  refine sx_enter (N := 8) (l := [.agg #[.int .i64 t.f0, .int .i64 t.f1], .pointer (some ⟨gm, 0, none⟩)]) Tryz.func64 rfl rfl rfl ?_
  refine wp_seq ?_
  refine sx_region ?_
  refine sx_box 2 hp #[.int .i64 t.f0, .int .i64 t.f1] 53 (by rfl) (fun W => by kernel_rfl) ?_
  intro g_1 W_2 hp
  refine sx_rd 3 (.bool false) (by rfl) (by kernel_rfl) ?_
  refine sx_nil ?_
  refine ex_then_n ?_
  refine wp_seq ?_
  refine sx_drawT [] (.rd 0 (.rd 1 (.alt 2 (.rd 3 (.rd 4 (.fin))) .non))) 5 (C := Hp w0 (blk g_1 #[.int .i64 t.f0, .int .i64 t.f1] 53 :: blk gm #[.string (txt x)] 9 :: cs)) (by kernel_rfl) (by kernel_rfl) (fun d _ _ _ _ h => by cases d <;> exact h) (fun W h => h.drew) hp ?_
  refine preI_nil ?_
  intro W_3 hp
  refine treeI_rd rfl ?_
  refine sxq_val 4 (.agg #[.int .i64 t.f0, .int .i64 t.f1]) (by rfl) (fun W hp => (ldn (t := 53) (p := (.tmp 2)) (by rfl) (by rfl) (by kernel_rfl) (by kernel_rfl) (by kernel_rfl) (hp.at_ 0 _ (by rfl)))) ?_
  refine sxq_nil ?_
  refine treeI_rd rfl ?_
  refine sxq_val 5 (.string (txt x)) (by rfl) (fun W hp => (ld1 (t := 9) (p := (.tmp 1)) (by rfl) (by rfl) (by kernel_rfl) (hp.cell 1 (by rfl) 0 _ (by rfl)))) ?_
  refine sxq_nil ?_
  refine treeI_ev rfl ?_
  refine sx_call 6 (by rfl) (by kernel_rfl) ((impl_moved.calls (txt x) _ _ _ ((moved_eq hx hg).1)).mono ?_)
  rintro _ W_4 ⟨rfl, hb⟩
  refine ⟨_, rfl, ?_⟩
  replace hp := hp.below hb
  clear hb
  refine step_fin hp ?_
  refine treeI_rd rfl ?_
  refine sxq_val 7 (.bool ((t.f0 == x.f0.f0) && (t.f1 == x.f0.f1))) (by rfl) (fun W hp => (eqagg_run (by rfl) (by rfl) (by rfl) (fun d w => eqA53 d w _ _ _ _) (by kernel_rfl))) ?_
  refine sxq_nil ?_
  refine treeI_rd rfl ?_
  refine sxq_val 3 (.bool ((t.f0 == x.f0.f0) && (t.f1 == x.f0.f1))) (by rfl) (fun W hp => (by kernel_rfl)) ?_
  refine sxq_nil ?_
  refine treeI_fin ?_
  refine sx_nil ?_
  refine ex_then_n ?_
  refine wp_ret ?_
  refine sx_end (.bool ((t.f0 == x.f0.f0) && (t.f1 == x.f0.f1))) (res1 3 (by rfl)) ?_
  exact ⟨congrArg (fun b => Ending.returned (.bool b)) (out_not x.f0 t).symm, (hp.take [1] 2 (by decide) (by simp))⟩
set_option maxRecDepth 100000 in
set_option maxHeartbeats 40000000 in
theorem idxF_sx {w0 W : World} {cs : List Chunk} (gm : Nat) (x : S_plLay) (hx : x.f2 = false) (hg : goodT x.f0 = true) {base c : Nat} {A : Option Addr} {l0 : List S_Tile} {F : Nat → Prop} (hn : l0.length ≤ 1000000) (hp : Hp w0 (row k53 53 base (.slice A l0.length c) l0 F :: blk gm #[.string (txt x)] 9 :: cs) W) :
    Calls Tryz.prog 87 #[.slice A l0.length c, .func (.func 64) #[] #[.pointer (some ⟨gm, 0, none⟩)]] W fun e W' => e = .returned (.int .i64 (goneAt l0 x.f0)) ∧ Hp w0 (row k53 53 base (.slice A l0.length c) l0 F :: blk gm #[.string (txt x)] 9 :: cs) W' := by
  refine sx_enter (N := 19) (l := [.slice A l0.length c, .func (.func 64) #[] #[.pointer (some ⟨gm, 0, none⟩)]]) Tryz.func87 rfl rfl rfl ?_
  refine wp_seq ?_
  refine sx_region ?_
  refine sx_rd 4 (.int .i64 0) (by rfl) (by kernel_rfl) ?_
  refine sx_nil ?_
  refine ex_then_n ?_
  refine wp_seq ?_
  refine wp_seq ?_
  refine sx_region ?_
  refine sx_rd 6 (.slice A l0.length c) (by rfl) (by kernel_rfl) ?_
  refine sx_rd 7 (.int .i64 (l0.length : Int)) (by rfl) (by kernel_rfl) ?_
  refine sx_rd 8 (.int .i64 0) (by rfl) (by kernel_rfl) ?_
  refine sx_nil ?_
  refine ex_then_n ?_
  refine wp_block ?_
  refine wp_loop_ghost (fun n_ a_ W => ∃ (r_ : List (Nat × Value)) (i : Nat) , n_ = l0.length - i ∧ a_ = fr 19 ([(0, .slice A l0.length c), (1, .func (.func 64) #[] #[.pointer (some ⟨gm, 0, none⟩)]), (7, .int .i64 (l0.length : Int)), (8, .int .i64 (i : Int))] ++ r_) ∧ Hp w0 (row k53 53 base (.slice A l0.length c) l0 F :: blk gm #[.string (txt x)] 9 :: cs) W ∧ (i ≤ l0.length) ∧ (∀ j, j < i → outT x.f0 (rd_Tile l0 (j : Int)) = true)) _ ⟨_, 0, rfl, fr_front [(0, .slice A l0.length c), (1, .func (.func 64) #[] #[.pointer (some ⟨gm, 0, none⟩)]), (7, .int .i64 (l0.length : Int)), (8, .int .i64 0)] ⟨rfl, rfl, rfl, rfl, trivial⟩, (hp.take [0, 1] 2 (by decide) (by simp)), Nat.zero_le _, (fun j hj => absurd hj (Nat.not_lt_zero _))⟩ ?_
  rintro _ _ W_1 ⟨r_, i, rfl, rfl, hp, hi, hall⟩
  refine wp_seq ?_
  refine sx_region ?_
  refine sx_rd 9 (.bool (decide ((i : Int) < (l0.length : Int)))) (by rfl) (by kernel_rfl) ?_
  refine sx_nil ?_
  refine ex_then_n ?_
  refine wp_seq ?_
  refine sx_cond (decide ((i : Int) < (l0.length : Int))) (by rfl) (fun c_2 => ?_) (fun c_2 => ?_)
  ·
    have c_2p := of_decide_eq_true c_2
    refine wp_skip ?_
    refine ex_then_n ?_
    refine wp_seq ?_
    refine wp_block ?_
    refine wp_seq ?_
    refine sx_region ?_
    refine sx_rd 10 (.int .i64 (i : Int)) (by rfl) (by kernel_rfl) ?_
    refine sx_rd 5 (.int .i64 (i : Int)) (by rfl) (by kernel_rfl) ?_
    refine sx_nil ?_
    refine ex_then_n ?_
    refine wp_seq ?_
    refine sx_region ?_
    refine sx_rd 11 (.func (.func 64) #[] #[.pointer (some ⟨gm, 0, none⟩)]) (by rfl) (by kernel_rfl) ?_
    refine sx_rd 12 (.slice A l0.length c) (by rfl) (by kernel_rfl) ?_
    refine sx_rd 13 (.int .i64 (i : Int)) (by rfl) (by kernel_rfl) ?_
    refine sx_rd 14 (.pointer (some (adr A (i : Int) 2))) (by rfl) (ix_run (d := k53) (row_C (hp.at_ 0 _ (by rfl))) (t := 29) (by rfl) (by rfl) (by rfl) Tryz.underlying29 (by kernel_rfl) (by omega) (by omega)) ?_
    refine sx_rd 15 (.agg #[.int .i64 ((rd_Tile l0 (i : Int)).f0), .int .i64 ((rd_Tile l0 (i : Int)).f1)]) (by rfl) (el_run (d := k53) (row_C (hp.at_ 0 _ (by rfl))) z53 (i : Int) (by omega) (by omega) (cells := [.int .i64 ((rd_Tile l0 (i : Int)).f0), .int .i64 ((rd_Tile l0 (i : Int)).f1)]) (fun cs h => k53_open h) 0 [.int .i64 ((rd_Tile l0 (i : Int)).f0), .int .i64 ((rd_Tile l0 (i : Int)).f1)] (by rfl) (t := 53) (p := (.tmp 14)) (by rfl) (by rfl) (by kernel_rfl) (by kernel_rfl)) ?_
    refine sx_call 16 (by rfl) (by kernel_rfl) ((gone_sx gm x hx hg (rd_Tile l0 (i : Int)) (hp.take [1, 0] 2 (by decide) (by simp))).mono ?_)
    rintro _ W_3 ⟨rfl, hp⟩
    refine ⟨_, rfl, ?_⟩
    replace hp : Hp w0 (row k53 53 base (.slice A l0.length c) l0 F :: blk gm #[.string (txt x)] 9 :: cs) _ := (hp.take [1, 0] 2 (by decide) (by simp))
    refine sx_nil ?_
    refine ex_then_n ?_
    refine sx_cond (!outT x.f0 (rd_Tile l0 (i : Int))) (by rfl) (fun c_4 => ?_) (fun c_4 => ?_)
    ·
      refine wp_seq ?_
      refine sx_region ?_
      refine sx_rd 17 (.int .i64 (i : Int)) (by rfl) (by kernel_rfl) ?_
      refine sx_rd 4 (.int .i64 (i : Int)) (by rfl) (by kernel_rfl) ?_
      refine sx_nil ?_
      refine ex_then_n ?_
      refine wp_ret ?_
      refine ex_blk_r (ex_then_r (ex_then_r (ex_blk_r (ex_then_r ?_))))
      refine sx_end (.int .i64 (i : Int)) (res1 4 (by rfl)) ?_
      exact ⟨congrArg (fun z => Ending.returned (.int .i64 z)) (goneAt_hit (by omega) hall (by simpa using c_4)).symm, (hp.take [0, 1] 2 (by decide) (by simp))⟩
    ·
      refine wp_skip ?_
      refine ex_blk_n ?_
      refine ex_then_n ?_
      refine sx_region ?_
      refine sx_rd 18 (.int .i64 ((i : Int) + 1)) (by rfl) (wr_ok (by omega) (by kernel_rfl)) ?_
      refine sx_rd 8 (.int .i64 ((i : Int) + 1)) (by rfl) (by kernel_rfl) ?_
      refine sx_nil ?_
      refine ex_then_n ?_
      exact ⟨_, (by omega), _, (i + 1), rfl, fr_front [(0, .slice A l0.length c), (1, .func (.func 64) #[] #[.pointer (some ⟨gm, 0, none⟩)]), (7, .int .i64 (l0.length : Int)), (8, .int .i64 ((i + 1 : Nat) : Int))] ⟨rfl, rfl, rfl, rfl, trivial⟩, (hp.take [0, 1] 2 (by decide) (by simp)), (by omega), (fun j hj => by rcases Nat.lt_succ_iff_lt_or_eq.1 hj with q | rfl; exact hall j q; exact (by simpa using c_4))⟩
  ·
    have c_2p := of_decide_eq_false c_2
    refine wp_exit ?_
    refine ex_then_e (ex_then_e (ex_blk_here ?_))
    refine ex_then_n ?_
    refine wp_seq ?_
    refine sx_region ?_
    refine sx_rd 4 (.int .i64 (-1)) (by rfl) (by kernel_rfl) ?_
    refine sx_nil ?_
    refine ex_then_n ?_
    refine wp_ret ?_
    refine sx_end (.int .i64 (-1)) (res1 4 (by rfl)) ?_
    obtain rfl : i = l0.length := by omega
    exact ⟨congrArg (fun z => Ending.returned (.int .i64 z)) (goneAt_none hall).symm, (hp.take [0, 1] 2 (by decide) (by simp))⟩
theorem add_at2 (g n : Nat) : Option.map (fun x : Addr => x.add (n * 2)) (some ⟨g, 0, none⟩) = some ⟨g, n * 2, none⟩ := by
  simp only [Option.map_some, Addr.add]
  split
  · rename_i h; rw [h]
  · simp
set_option maxRecDepth 100000 in
set_option maxHeartbeats 40000000 in
theorem delF_sx {w0 W : World} {cs : List Chunk} (gm : Nat) (x : S_plLay) (hx : x.f2 = false) (hg : goodT x.f0 = true) {base c : Nat} {A : Option Addr} {l0 : List S_Tile} {F : Nat → Prop} (hn : l0.length ≤ 1000000) (hp : Hp w0 (row k53 53 base (.slice A l0.length c) l0 F :: blk gm #[.string (txt x)] 9 :: cs) W) :
    Calls Tryz.prog 66 #[.slice A l0.length c, .func (.func 64) #[] #[.pointer (some ⟨gm, 0, none⟩)]] W fun e W' => ∃ F', e = .returned (.slice A (gone1 l0 x.f0).length c) ∧ Hp w0 (row k53 53 base (.slice A (gone1 l0 x.f0).length c) (gone1 l0 x.f0) F' :: blk gm #[.string (txt x)] 9 :: cs) W' := by
  have hcap := (row_len (hp.at_ 0 _ (by rfl))).2
  refine sx_enter (N := 42) (l := [.slice A l0.length c, .func (.func 64) #[] #[.pointer (some ⟨gm, 0, none⟩)]]) Tryz.func66 rfl rfl rfl ?_
  refine wp_seq ?_
  refine sx_region ?_
  refine sx_rd 4 (.slice none 0 0) (by rfl) (by kernel_rfl) ?_
  refine sx_nil ?_
  refine ex_then_n ?_
  refine wp_seq ?_
  refine sx_region ?_
  refine sx_rd 8 (.slice A l0.length c) (by rfl) (by kernel_rfl) ?_
  refine sx_rd 9 (.func (.func 64) #[] #[.pointer (some ⟨gm, 0, none⟩)]) (by rfl) (by kernel_rfl) ?_
  refine sx_call 10 (by rfl) (by kernel_rfl) ((idxF_sx gm x hx hg hn (hp.take [0, 1] 2 (by decide) (by simp))).mono ?_)
  rintro _ W_1 ⟨rfl, hp⟩
  refine ⟨_, rfl, ?_⟩
  refine sx_rd 5 (.int .i64 (goneAt l0 x.f0)) (by rfl) (by kernel_rfl) ?_
  refine sx_nil ?_
  refine ex_then_n ?_
  refine wp_seq ?_
  refine wp_seq ?_
  refine sx_region ?_
  refine sx_rd 11 (.int .i64 (goneAt l0 x.f0)) (by rfl) (by kernel_rfl) ?_
  refine sx_rd 12 (.bool ((goneAt l0 x.f0) == (-1))) (by rfl) (by kernel_rfl) ?_
  refine sx_nil ?_
  refine ex_then_n ?_
  refine sx_cond ((goneAt l0 x.f0) == (-1)) (by rfl) (fun c_2 => ?_) (fun c_2 => ?_)
  ·
    have c_2p := eq_of_beq_ c_2
    refine wp_seq ?_
    refine sx_region ?_
    refine sx_rd 13 (.slice A l0.length c) (by rfl) (by kernel_rfl) ?_
    refine sx_rd 4 (.slice A l0.length c) (by rfl) (by kernel_rfl) ?_
    refine sx_nil ?_
    refine ex_then_n ?_
    refine wp_ret ?_
    refine ex_then_r ?_
    refine sx_end (.slice A l0.length c) (res1 4 (by rfl)) ?_
    have hg1 := goneAt_neg c_2p
    exact ⟨_, by rw [hg1], by rw [hg1]; exact hp⟩
  ·
    have c_2p := ne_of_beq_ c_2
    obtain ⟨i0, hi0, hlt, hall, hno⟩ := goneAt_pos c_2p
    rw [hi0]
    obtain ⟨g, rfl⟩ := row_form (hp.at_ 0 _ (by rfl)) (by omega)
    have hst := dl_start hlt hall hno
    refine wp_skip ?_
    refine ex_then_n ?_
    refine wp_seq ?_
    refine wp_seq ?_
    refine sx_region ?_
    refine sx_rd 14 (.int .i64 (i0 : Int)) (by rfl) (by kernel_rfl) ?_
    refine sx_rd 15 (.int .i64 ((i0 : Int) + 1)) (by rfl) (wr_ok (by omega) (by kernel_rfl)) ?_
    refine sx_rd 6 (.int .i64 ((i0 : Int) + 1)) (by rfl) (by kernel_rfl) ?_
    refine sx_nil ?_
    refine ex_then_n ?_
    refine wp_block ?_
    have e0_3 : l0 = (dl x.f0 l0 (i0 + 1)).1 := (by rw [hst])
    have hp : Hp w0 (row k53 53 base (.slice (some ⟨g, 0, none⟩) l0.length c) ((dl x.f0 l0 (i0 + 1)).1) F :: blk gm #[.string (txt x)] 9 :: cs) W_1 := by rw [← e0_3]; exact hp
    refine wp_loop_ghost (fun n_ a_ W => ∃ (r_ : List (Nat × Value)) (i : Nat) (Fi0 : Nat → Prop), n_ = l0.length - i ∧ a_ = fr 42 ([(0, .slice (some ⟨g, 0, none⟩) l0.length c), (1, .func (.func 64) #[] #[.pointer (some ⟨gm, 0, none⟩)]), (5, .int .i64 ((dl x.f0 l0 i).2 : Int)), (6, .int .i64 (i : Int))] ++ r_) ∧ Hp w0 (row k53 53 base (.slice (some ⟨g, 0, none⟩) l0.length c) ((dl x.f0 l0 i).1) Fi0 :: blk gm #[.string (txt x)] 9 :: cs) W ∧ (i ≤ l0.length)) _ ⟨_, (i0 + 1), _, rfl, fr_front [(0, .slice (some ⟨g, 0, none⟩) l0.length c), (1, .func (.func 64) #[] #[.pointer (some ⟨gm, 0, none⟩)]), (5, .int .i64 ((dl x.f0 l0 (i0 + 1)).2 : Int)), (6, .int .i64 (((i0 + 1) : Nat) : Int))] ⟨rfl, rfl, (by exact congrArg (Value.int .i64) (show (i0 : Int) = ((dl x.f0 l0 (i0 + 1)).2 : Int) from (by rw [hst]))), rfl, trivial⟩, (hp.take [0, 1] 2 (by decide) (by simp)), (by omega)⟩ ?_
    rintro _ _ W_4 ⟨r_, i, Fi0, rfl, rfl, hp, hi⟩
    have hinv := dl_inv x.f0 l0 i (by omega)
    obtain ⟨hl1, hl2, -, -, -⟩ := hinv
    refine wp_seq ?_
    refine wp_seq ?_
    refine sx_region ?_
    refine sx_rd 16 (.int .i64 (i : Int)) (by rfl) (by kernel_rfl) ?_
    refine sx_rd 17 (.slice (some ⟨g, 0, none⟩) l0.length c) (by rfl) (by kernel_rfl) ?_
    refine sx_rd 18 (.int .i64 (l0.length : Int)) (by rfl) (by kernel_rfl) ?_
    refine sx_rd 19 (.bool (decide ((i : Int) < (l0.length : Int)))) (by rfl) (by kernel_rfl) ?_
    refine sx_nil ?_
    refine ex_then_n ?_
    refine sx_cond (decide ((i : Int) < (l0.length : Int))) (by rfl) (fun c_5 => ?_) (fun c_5 => ?_)
    ·
      have c_5p := of_decide_eq_true c_5
      refine wp_skip ?_
      refine ex_then_n ?_
      refine wp_seq ?_
      refine wp_block ?_
      refine wp_seq ?_
      refine sx_region ?_
      refine sx_rd 22 (.slice (some ⟨g, 0, none⟩) l0.length c) (by rfl) (by kernel_rfl) ?_
      refine sx_rd 23 (.int .i64 (i : Int)) (by rfl) (by kernel_rfl) ?_
      refine sx_rd 24 (.pointer (some (adr (some ⟨g, 0, none⟩) (i : Int) 2))) (by rfl) (ix_run (d := k53) (row_Cn (hp.at_ 0 _ (by rfl))) (t := 29) (by rfl) (by rfl) (by rfl) Tryz.underlying29 (by kernel_rfl) (by omega) (by omega)) ?_
      refine sx_rd 25 (.agg #[.int .i64 ((rd_Tile ((dl x.f0 l0 i).1) (i : Int)).f0), .int .i64 ((rd_Tile ((dl x.f0 l0 i).1) (i : Int)).f1)]) (by rfl) (el_run (d := k53) (row_C (hp.at_ 0 _ (by rfl))) z53 (i : Int) (by omega) (by omega) (cells := [.int .i64 ((rd_Tile ((dl x.f0 l0 i).1) (i : Int)).f0), .int .i64 ((rd_Tile ((dl x.f0 l0 i).1) (i : Int)).f1)]) (fun cs h => k53_open h) 0 [.int .i64 ((rd_Tile ((dl x.f0 l0 i).1) (i : Int)).f0), .int .i64 ((rd_Tile ((dl x.f0 l0 i).1) (i : Int)).f1)] (by rfl) (t := 53) (p := (.tmp 24)) (by rfl) (by rfl) (by kernel_rfl) (by kernel_rfl)) ?_
      refine sx_box 7 hp #[.int .i64 0, .int .i64 0] 53 (by rfl) (fun W => by kernel_rfl) ?_
      intro g_6 W_7 hp
      refine sx_store (t := 53) (p := (.tmp 7)) (x := (.tmp 25)) (by rfl) (by rfl) 0 (by rfl) 0 [.int .i64 ((rd_Tile ((dl x.f0 l0 i).1) (i : Int)).f0), .int .i64 ((rd_Tile ((dl x.f0 l0 i).1) (i : Int)).f1)] (by rfl) (by rfl) (by kernel_rfl) (by simp [Value.oneCell']) (by show 2 ≤ 2; omega) #[.int .i64 ((rd_Tile ((dl x.f0 l0 i).1) (i : Int)).f0), .int .i64 ((rd_Tile ((dl x.f0 l0 i).1) (i : Int)).f1)] (by rfl) hp ?_
      intro W_8 hp; simp only [List.set_cons_succ, List.set_cons_zero] at hp
      refine sx_nil ?_
      refine ex_then_n ?_
      refine wp_seq ?_
      refine sx_region ?_
      refine sx_rd 26 (.func (.func 64) #[] #[.pointer (some ⟨gm, 0, none⟩)]) (by rfl) (by kernel_rfl) ?_
      refine sx_rd 27 (.agg #[.int .i64 ((rd_Tile ((dl x.f0 l0 i).1) (i : Int)).f0), .int .i64 ((rd_Tile ((dl x.f0 l0 i).1) (i : Int)).f1)]) (by rfl) (ldn (t := 53) (p := (.tmp 7)) (by rfl) (by rfl) (by kernel_rfl) (by kernel_rfl) (by kernel_rfl) (hp.at_ 0 _ (by rfl))) ?_
      refine sx_call 28 (by rfl) (by kernel_rfl) ((gone_sx gm x hx hg (rd_Tile ((dl x.f0 l0 i).1) (i : Int)) (hp.take [2, 0, 1] 3 (by decide) (by simp))).mono ?_)
      rintro _ W_9 ⟨rfl, hp⟩
      refine ⟨_, rfl, ?_⟩
      replace hp : Hp w0 (blk g_6 #[.int .i64 ((rd_Tile ((dl x.f0 l0 i).1) (i : Int)).f0), .int .i64 ((rd_Tile ((dl x.f0 l0 i).1) (i : Int)).f1)] 53 :: row k53 53 base (.slice (some ⟨g, 0, none⟩) l0.length c) ((dl x.f0 l0 i).1) Fi0 :: blk gm #[.string (txt x)] 9 :: cs) _ := (hp.take [1, 2, 0] 3 (by decide) (by simp))
      refine sx_rd 29 (.bool (!(!outT x.f0 (rd_Tile ((dl x.f0 l0 i).1) (i : Int))))) (by rfl) (by kernel_rfl) ?_
      refine sx_nil ?_
      refine ex_then_n ?_
      refine sx_cond (!(!outT x.f0 (rd_Tile ((dl x.f0 l0 i).1) (i : Int)))) (by rfl) (fun c_10 => ?_) (fun c_10 => ?_)
      ·
        refine wp_seq ?_
        refine sx_region ?_
        refine sx_rd 30 (.slice (some ⟨g, 0, none⟩) l0.length c) (by rfl) (by kernel_rfl) ?_
        refine sx_rd 31 (.int .i64 ((dl x.f0 l0 i).2 : Int)) (by rfl) (by kernel_rfl) ?_
        refine sx_rd 32 (.agg #[.int .i64 ((rd_Tile ((dl x.f0 l0 i).1) (i : Int)).f0), .int .i64 ((rd_Tile ((dl x.f0 l0 i).1) (i : Int)).f1)]) (by rfl) (ldn (t := 53) (p := (.tmp 7)) (by rfl) (by rfl) (by kernel_rfl) (by kernel_rfl) (by kernel_rfl) (hp.at_ 0 _ (by rfl))) ?_
        refine sx_rd 33 (.pointer (some (adr (some ⟨g, 0, none⟩) ((dl x.f0 l0 i).2 : Int) 2))) (by rfl) (ix_run (d := k53) (row_Cn (hp.at_ 1 _ (by rfl))) (t := 29) (by rfl) (by rfl) (by rfl) Tryz.underlying29 (by kernel_rfl) (by omega) (by omega)) ?_
        refine sx_rowstore (t := 53) (p := (.tmp 33)) (x := (.tmp 32)) (by rfl) (by rfl) 1 k53 (by rfl) ((dl x.f0 l0 i).2 : Int) (rd_Tile ((dl x.f0 l0 i).1) (i : Int)) [.int .i64 ((rd_Tile ((dl x.f0 l0 i).1) (i : Int)).f0), .int .i64 ((rd_Tile ((dl x.f0 l0 i).1) (i : Int)).f1)] (by rfl) (by rfl) (by kernel_rfl) (by simp [Value.oneCell']) (by rfl) (by omega) (by omega) z53 (fun _ => (k53_mkM _ _ _ _)) hp ?_
        intro F_11 W_12 hp; simp only [List.set_cons_succ, List.set_cons_zero] at hp
        refine sx_nil ?_
        refine ex_then_n ?_
        refine sx_region ?_
        refine sx_rd 34 (.int .i64 ((dl x.f0 l0 i).2 : Int)) (by rfl) (by kernel_rfl) ?_
        refine sx_rd 35 (.int .i64 (((dl x.f0 l0 i).2 : Int) + 1)) (by rfl) (wr_ok (by omega) (by kernel_rfl)) ?_
        refine sx_rd 5 (.int .i64 (((dl x.f0 l0 i).2 : Int) + 1)) (by rfl) (by kernel_rfl) ?_
        refine sx_nil ?_
        refine ex_blk_n ?_
        refine ex_then_n ?_
        refine sx_region ?_
        refine sx_rd 20 (.int .i64 (i : Int)) (by rfl) (by kernel_rfl) ?_
        refine sx_rd 21 (.int .i64 ((i : Int) + 1)) (by rfl) (wr_ok (by omega) (by kernel_rfl)) ?_
        refine sx_rd 6 (.int .i64 ((i : Int) + 1)) (by rfl) (by kernel_rfl) ?_
        refine sx_nil ?_
        refine ex_then_n ?_
        have hq_13 : (((dl x.f0 l0 i).2 : Int) + 1) = ((dl x.f0 l0 (i + 1)).2 : Int) := by simp only [dl]; rw [if_pos (by have q := (not_eq c_10); simpa using q)] <;> simp
        have hq_14 : ((dl x.f0 l0 i).1.set (((dl x.f0 l0 i).2 : Int)).toNat (rd_Tile ((dl x.f0 l0 i).1) (i : Int))) = (dl x.f0 l0 (i + 1)).1 := by simp only [dl]; rw [if_pos (by have q := (not_eq c_10); simpa using q)] <;> simp
        rw [hq_14] at hp
        exact ⟨_, (by omega), _, (i + 1), _, rfl, fr_front [(0, .slice (some ⟨g, 0, none⟩) l0.length c), (1, .func (.func 64) #[] #[.pointer (some ⟨gm, 0, none⟩)]), (5, .int .i64 ((dl x.f0 l0 (i + 1)).2 : Int)), (6, .int .i64 ((i + 1 : Nat) : Int))] ⟨rfl, rfl, congrArg (Value.int .i64) hq_13, rfl, trivial⟩, (hp.take [1, 2] 3 (by decide) (by simp)), (by omega)⟩
      ·
        refine wp_skip ?_
        refine ex_blk_n ?_
        refine ex_then_n ?_
        refine sx_region ?_
        refine sx_rd 20 (.int .i64 (i : Int)) (by rfl) (by kernel_rfl) ?_
        refine sx_rd 21 (.int .i64 ((i : Int) + 1)) (by rfl) (wr_ok (by omega) (by kernel_rfl)) ?_
        refine sx_rd 6 (.int .i64 ((i : Int) + 1)) (by rfl) (by kernel_rfl) ?_
        refine sx_nil ?_
        refine ex_then_n ?_
        have hq_15 : ((dl x.f0 l0 i).2 : Int) = ((dl x.f0 l0 (i + 1)).2 : Int) := by simp only [dl]; rw [if_neg (by have q := (not_eq c_10); simp at q; rw [q]; simp)]
        have hq_16 : (dl x.f0 l0 i).1 = (dl x.f0 l0 (i + 1)).1 := by simp only [dl]; rw [if_neg (by have q := (not_eq c_10); simp at q; rw [q]; simp)]
        rw [hq_16] at hp
        exact ⟨_, (by omega), _, (i + 1), _, rfl, fr_front [(0, .slice (some ⟨g, 0, none⟩) l0.length c), (1, .func (.func 64) #[] #[.pointer (some ⟨gm, 0, none⟩)]), (5, .int .i64 ((dl x.f0 l0 (i + 1)).2 : Int)), (6, .int .i64 ((i + 1 : Nat) : Int))] ⟨rfl, rfl, congrArg (Value.int .i64) hq_15, rfl, trivial⟩, (hp.take [1, 2] 3 (by decide) (by simp)), (by omega)⟩
    ·
      have c_5p := of_decide_eq_false c_5
      refine wp_exit ?_
      refine ex_then_e (ex_then_e (ex_blk_here ?_))
      refine ex_then_n ?_
      refine wp_seq ?_
      refine sx_region ?_
      refine sx_rd 36 (.slice (some ⟨g, 0, none⟩) l0.length c) (by rfl) (by kernel_rfl) ?_
      refine sx_rd 37 (.int .i64 ((dl x.f0 l0 i).2 : Int)) (by rfl) (by kernel_rfl) ?_
      refine sx_rd 38 (.slice (if c = (dl x.f0 l0 i).2 then some ⟨g, 0, none⟩ else Option.map (fun y : Addr => y.add ((dl x.f0 l0 i).2 * 2)) (some ⟨g, 0, none⟩)) ((l0.drop (dl x.f0 l0 i).2).length) (c - (dl x.f0 l0 i).2)) (by rfl) (sl_lo (dl x.f0 l0 i).2 (sz := 2) (xs := l0) (by rfl) (by rfl) (by rfl) rfl Tryz.underlying29 (by kernel_rfl) (by omega)) ?_
      have hdl : (l0.drop (dl x.f0 l0 i).2).length = l0.length - (dl x.f0 l0 i).2 := List.length_drop
      have hp := hp.cut 0 (by rfl) (dl x.f0 l0 i).2 (by omega)
      simp only [List.set_cons_zero] at hp
      refine sx_clear0 (by rfl) hp 0 k53 (by rfl) (by rfl) (by rfl) (fun _ => by rw [if_neg (by omega)]; exact add_at2 _ _) (by omega) Tryz.underlying29 (.agg #[.int .i64 0, .int .i64 0]) (by kernel_rfl) (by rfl) (by first | decide | simp [Value.cells, Value.oneCell'] | kernel_rfl) ?_
      intro W_17 hp
      refine sx_nil ?_
      refine ex_then_n ?_
      refine wp_seq ?_
      refine sx_region ?_
      refine sx_rd 39 (.slice (some ⟨g, 0, none⟩) l0.length c) (by rfl) (by kernel_rfl) ?_
      refine sx_rd 40 (.int .i64 ((dl x.f0 l0 i).2 : Int)) (by rfl) (by kernel_rfl) ?_
      refine sx_rd 41 (.slice (some ⟨g, 0, none⟩) ((l0.take (dl x.f0 l0 i).2).length) c) (by rfl) (sl_hi (dl x.f0 l0 i).2 (sz := 2) (xs := l0) (by rfl) (by rfl) (by rfl) rfl Tryz.underlying29 (by kernel_rfl) (by omega) hcap) ?_
      refine sx_rd 4 (.slice (some ⟨g, 0, none⟩) ((l0.take (dl x.f0 l0 i).2).length) c) (by rfl) (by kernel_rfl) ?_
      refine sx_nil ?_
      refine ex_then_n ?_
      refine wp_ret ?_
      refine sx_end (.slice (some ⟨g, 0, none⟩) ((l0.take (dl x.f0 l0 i).2).length) c) (res1 4 (by rfl)) ?_
      obtain rfl : i = l0.length := by omega
      obtain ⟨e1, e2⟩ := dl_end x.f0 l0
      rw [e1, e2] at hp
      exact ⟨_, by rw [List.length_take, e2, Nat.min_eq_left (gone1_len l0 x.f0)], hp⟩
end Go.Proofs.YtjaojemmbeddfaaGreat.Hd
namespace Go.Proofs.YtjaojemmbeddfaaGreat.Pure
open Go.RowKit Go.Proofs.YtjaojemmbeddfaaGreat.Hd Go.Proofs.YtjaojemmbeddfaaGreatW.PrintWords Go.Proofs.YtjaojemmbeddfaaGreatW.PrintLast
theorem rdR_at {l : List (List Int)} {i : Nat} (h : i < l.length) : rd_i64s l (i : Int) = l[i] := by simp [rd_i64s, h]
end Go.Proofs.YtjaojemmbeddfaaGreat.Pure
namespace Go.Proofs.YtjaojemmbeddfaaGreat.Pure
open Go.RowKit Go.Proofs.YtjaojemmbeddfaaGreat.Hd Go.Proofs.YtjaojemmbeddfaaGreatW.PrintWords Go.Proofs.YtjaojemmbeddfaaGreatW.PrintLast
set_option linter.unusedVariables false
set_option linter.unusedSimpArgs false
theorem flat_take (l : List (List Int)) (i : Nat) (h : i < l.length) : (l.take (i + 1)).flatten = (l.take i).flatten ++ l[i] := by
  rw [List.take_succ_eq_append_getElem h, List.flatten_append]; simp
theorem flat_le (l : List (List Int)) (i : Nat) : (l.take i).flatten.length ≤ l.flatten.length := by
  conv => rhs; rw [← List.take_append_drop i l, List.flatten_append, List.length_append]
  omega
theorem concat_l1 (l : List (List Int)) (hl : l.length ≤ 1048576) (hf : l.flatten.length < 8796093022208) : ∀ (d i : Nat), i + d = l.length →
    Ev (fun k => slices_Concat_int_int.l1 k (l.take i).flatten l (l.length : Int) (i : Int)) l.flatten := by
  intro d
  induction d with
  | zero =>
    intro i hi
    refine Ev.succ ?_
    simp only [slices_Concat_int_int.l1]
    exact Ev.neg (by omega) (Ev.ret (by rw [List.take_of_length_le (by omega)]))
  | succ d ih =>
    intro i hi
    refine Ev.succ ?_
    have hlt : i < l.length := by omega
    have h1 := flat_take l i hlt
    have h2 := flat_le l (i + 1)
    simp only [slices_Concat_int_int.l1]
    rw [w64' (n := (i : Int) + 1) (m := ((i + 1 : Nat) : Int)) (by omega) (by omega) (by omega), rdR_at hlt, ← h1]
    refine Ev.pos (by omega) (Ev.pos (by omega) (Ev.pos (by omega) (Ev.pos ?_ (ih (i + 1) (by omega)))))
    rw [h1, List.length_append] at h2
    omega
theorem concat_l0 (l : List (List Int)) (hl : l.length ≤ 1048576) (hf : l.flatten.length < 8796093022208) : ∀ (d i : Nat), i + d = l.length →
    Ev (fun k => slices_Concat_int_int.l0 k l (((l.take i).flatten.length : Nat) : Int) l (l.length : Int) (i : Int)) l.flatten := by
  intro d
  induction d with
  | zero =>
    intro i hi
    refine Ev.succ ?_
    simp only [slices_Concat_int_int.l0]
    have h2 := flat_le l i
    refine Ev.neg (by omega) (Ev.bs (a := []) ?_ (concat_l1 l hl hf l.length 0 (by omega)))
    unfold slices_Grow_int_int.f
    rw [if_pos (by omega), if_pos (by omega)]
  | succ d ih =>
    intro i hi
    refine Ev.succ ?_
    have hlt : i < l.length := by omega
    have h1 := congrArg List.length (flat_take l i hlt)
    rw [List.length_append] at h1
    have h2 := flat_le l (i + 1)
    simp only [slices_Concat_int_int.l0]
    rw [w64' (n := (i : Int) + 1) (m := ((i + 1 : Nat) : Int)) (by omega) (by omega) (by omega), rdR_at hlt, w64' (n := (((l.take i).flatten.length : Nat) : Int) + (l[i].length : Int)) (m := (((l.take (i + 1)).flatten.length : Nat) : Int)) (by omega) (by omega) (by omega)]
    exact Ev.pos (by omega) (Ev.pos (by omega) (Ev.pos (by omega) (Ev.neg (by omega) (ih (i + 1) (by omega)))))
theorem concat_ev (l : List (List Int)) (hl : l.length ≤ 1048576) (hf : l.flatten.length < 8796093022208) : Ev (fun k => slices_Concat_int_int.f k l) l.flatten := by
  unfold slices_Concat_int_int.f
  have h := concat_l0 l hl hf l.length 0 (by omega)
  simpa using h
end Go.Proofs.YtjaojemmbeddfaaGreat.Pure
namespace Go.Proofs.YtjaojemmbeddfaaGreat.Pure
open Go.RowKit Go.Proofs.YtjaojemmbeddfaaGreat.Hd Go.Proofs.YtjaojemmbeddfaaGreatW.PrintWords Go.Proofs.YtjaojemmbeddfaaGreatW.PrintLast
set_option linter.unusedVariables false
set_option linter.unusedSimpArgs false
theorem other_eq {t : S_Tile} {n : Int} (hg : goodT t = true) (h : hasT t n = true) : impl_Tile_other.f t.f0 t.f1 n = some (otherN t n) := by
  unfold goodT at hg
  unfold hasT at h
  simp only [Bool.and_eq_true, Bool.or_eq_true, beq_iff_eq, decide_eq_true_eq] at hg h
  unfold impl_Tile_other.f otherN
  rw [w64' (n := t.f0 + t.f1) rfl (by omega) (by omega), w64' (n := t.f0 + t.f1 - n) rfl (by omega) (by omega)]
theorem laid_ev (r : List Int) {x : S_plLay} (h : x.f2 = false) (hg : goodT x.f0 = true) (h0 : r.length = 0 → x.f1 = true) (hh : r.length ≠ 0 → hasT x.f0 (if x.f1 = true then endA r else endB r) = true) (hr : r.length ≤ 2000000) : Ev (fun k => impl_laid.f k r (txt x)) (rowP r x) := by
  obtain ⟨hm, hb⟩ := moved_eq h hg
  have h3 := txt_lay h
  unfold impl_laid.f rowP
  refine Ev.bs hm ?_
  by_cases hl : r.length = 0
  · exact Ev.pos (by omega) (Ev.ifp hl (Ev.ret rfl))
  · refine Ev.neg (by omega) (Ev.ifn hl (Ev.bs (ends_eq hl hr) (Ev.pos (by omega) ?_)))
    have hh1 := hh hl
    by_cases hc : x.f1 = true
    · rw [if_pos hc] at hb hh1
      refine Ev.pos hb (Ev.ifp hc (Ev.bs (other_eq hg hh1) (Ev.bd (concat_ev _ (by simp) ?_) (Ev.ret (by simp)))))
      simp only [List.flatten_cons, List.flatten_nil, List.append_nil, List.length_append, List.length_singleton]; omega
    · rw [if_neg hc] at hb hh1
      refine Ev.neg (by rw [hb]; decide) (Ev.ifn hc (Ev.bs (other_eq hg hh1) (Ev.bd (concat_ev _ (by simp) ?_) (Ev.ret (by simp)))))
      simp only [List.flatten_cons, List.flatten_nil, List.append_nil, List.length_append, List.length_singleton]; omega
end Go.Proofs.YtjaojemmbeddfaaGreat.Pure
namespace Go.Proofs.YtjaojemmbeddfaaGreat.Pure
open Go.RowKit Go.Proofs.YtjaojemmbeddfaaGreat.Hd Go.Proofs.YtjaojemmbeddfaaGreatW.PrintWords Go.Proofs.YtjaojemmbeddfaaGreatW.PrintLast
set_option linter.unusedVariables false
set_option linter.unusedSimpArgs false
theorem cloneT_eq (l : List S_Tile) (h : l.length ≤ 1048576) : slices_Clone_impl_Tile_impl_Tile.f l = some l := by
  unfold slices_Clone_impl_Tile_impl_Tile.f
  rw [Option.bind_some, if_pos (by simp; omega), List.nil_append]
end Go.Proofs.YtjaojemmbeddfaaGreat.Pure
namespace Go.Proofs.YtjaojemmbeddfaaGreat.Pure
open Go.RowKit Go.Proofs.YtjaojemmbeddfaaGreat.Hd Go.Proofs.YtjaojemmbeddfaaGreatW.PrintWords Go.Proofs.YtjaojemmbeddfaaGreatW.PrintLast
set_option linter.unusedVariables false
set_option linter.unusedSimpArgs false
theorem cloneI_eq (l : List Int) (h : l.length ≤ 2000000) : slices_Clone_int_int.f l = some l := by
  unfold slices_Clone_int_int.f
  rw [Option.bind_some, if_pos (by simp; omega), List.nil_append]
end Go.Proofs.YtjaojemmbeddfaaGreat.Pure
namespace Go.Proofs.YtjaojemmbeddfaaGreat.Hd
open Go.RowKit Go.Proofs.YtjaojemmbeddfaaGreat.Pure Go.Proofs.YtjaojemmbeddfaaGreatW.PrintWords Go.Proofs.YtjaojemmbeddfaaGreatW.PrintLast Go.Proofs.YtjaojemmbeddfaaGreatW.PrintMore
set_option linter.unusedVariables false
set_option linter.unusedSimpArgs false
def impl_Game_behind.f (f s : List S_Tile) (r : List Int) (t p : Int) (mv : ByteArray) : Option (List S_Tile × List S_Tile × List Int × Int × Int) := if gmB f s r t p then (match findM (movesL f s r t p) mv with | some x => some ((Gm.make ⟨f, s, r, t, p⟩ x).f, (Gm.make ⟨f, s, r, t, p⟩ x).s, (Gm.make ⟨f, s, r, t, p⟩ x).r, (Gm.make ⟨f, s, r, t, p⟩ x).t, (Gm.make ⟨f, s, r, t, p⟩ x).p) | none => none) else none
set_option maxRecDepth 100000 in
set_option maxHeartbeats 40000000 in
theorem impl_Game_behind.calls (A0_0 : Option Addr) (c0_0 : Nat) (l0_0 : List S_Tile) (A0_1 : Option Addr) (c0_1 : Nat) (l0_1 : List S_Tile) (A0_2 : Option Addr) (c0_2 : Nat) (l0_2 : List Int) (a0_3 : Int) (a0_4 : Int) (a1 : ByteArray) (r0 : List S_Tile) (r1 : List S_Tile) (r2 : List Int) (r3 : Int) (r4 : Int) (w : World) (hr0_0 : Kd.C k53 w A0_0 l0_0.length l0_0) (hc0_0 : l0_0.length ≤ c0_0) (hr0_1 : Kd.C k53 w A0_1 l0_1.length l0_1) (hc0_1 : l0_1.length ≤ c0_1) (hr0_2 : Kd.C (Kd.int .i64) w A0_2 l0_2.length l0_2) (hc0_2 : l0_2.length ≤ c0_2) (h : impl_Game_behind.f l0_0 l0_1 l0_2 a0_3 a0_4 a1 = some (r0, r1, r2, r3, r4)) :
  Calls Tryz.prog 37 #[.agg #[.slice A0_0 l0_0.length c0_0, .slice A0_1 l0_1.length c0_1, .slice A0_2 l0_2.length c0_2, .int .i64 a0_3, .int .i64 a0_4], .string a1] w fun e w' => ∃ v0_ v1_ v2_ : Value, e = .returned (.agg #[v0_, v1_, v2_, .int .i64 r3, .int .i64 r4]) ∧ Kd.R k53 53 w' w.heap.size (fun k_ => some k_ ≠ (v1_ : Value).ownBlock) v0_ r0 ∧ Kd.R k53 53 w' w.heap.size (fun k_ => some k_ ≠ (v0_ : Value).ownBlock) v1_ r1 ∧ Kd.R (Kd.int .i64) 3 w' w.heap.size (fun _ => True) v2_ r2 ∧ Below w.heap.size w w' := by
 unfold impl_Game_behind.f at h
 by_cases hsz : gmB l0_0 l0_1 l0_2 a0_3 a0_4
 case neg => rw [if_neg hsz] at h; cases h
 rw [if_pos hsz] at h
 obtain ⟨⟨hf1, hs1⟩, hz2, ⟨ht0, ht1⟩, hp0, hp1⟩ := hsz
 have hz0 := hand_len hf1
 have hz1 := hand_len hs1
 cases hfm : findM (movesL l0_0 l0_1 l0_2 a0_3 a0_4) a1 with
 | none => rw [hfm] at h; cases h
 | some x =>
  rw [hfm] at h; dsimp only at h
  obtain ⟨hmem, rfl⟩ := findM_some hfm
  obtain ⟨cs, hcs⟩ : ∃ cs, cs = [old w w.heap.size] := ⟨_, rfl⟩
  have hp : Hp w cs w := by rw [hcs]; exact Hp.old_start w
  have hc2 : ∀ W, Hp w cs W → Below w.heap.size w W := fun W h => by rw [hcs] at h; exact h.since 0 _ rfl
  have hC0_0 : ∀ W, Hp w cs W → Kd.C k53 W A0_0 l0_0.length l0_0 := fun W h => Kd.C_below hr0_0 (hc2 W h)
  have hC0_1 : ∀ W, Hp w cs W → Kd.C k53 W A0_1 l0_1.length l0_1 := fun W h => Kd.C_below hr0_1 (hc2 W h)
  have hC0_2 : ∀ W, Hp w cs W → Kd.C (Kd.int .i64) W A0_2 l0_2.length l0_2 := fun W h => Kd.C_below hr0_2 (hc2 W h)
  clear hcs
  refine sx_enter (N := 44) (l := [.agg #[.slice A0_0 l0_0.length c0_0, .slice A0_1 l0_1.length c0_1, .slice A0_2 l0_2.length c0_2, .int .i64 a0_3, .int .i64 a0_4], .string (txt x)]) Tryz.func37 rfl rfl rfl ?_
  refine wp_seq ?_
  refine sx_region ?_
  refine sx_box 2 hp #[.slice A0_0 l0_0.length c0_0, .slice A0_1 l0_1.length c0_1, .slice A0_2 l0_2.length c0_2, .int .i64 a0_3, .int .i64 a0_4] 31 (by rfl) (fun W => by kernel_rfl) ?_
  intro g_1 W_2 hp
  refine sx_box 3 hp #[.string (txt x)] 9 (by rfl) (fun W => by kernel_rfl) ?_
  intro g_3 W_4 hp
  refine sx_box 4 hp #[.slice none 0 0, .slice none 0 0, .slice none 0 0, .int .i64 0, .int .i64 0] 31 (by rfl) (fun W => by kernel_rfl) ?_
  intro g_5 W_6 hp
  refine sx_nil ?_
  refine ex_then_n ?_
  refine wp_seq ?_
  refine sx_drawI (fun a_ W => ∃ (r_ : List (Nat × Value)) (gm_29 : Nat) (Am_30 : Option Addr) (cm_31 : Nat) (Am_32 : Option Addr) (cm_33 : Nat) (Am_34 : Option Addr) (cm_35 : Nat) (Fm_36 : Nat → Prop) (Fm_37 : Nat → Prop) (Fm_38 : Nat → Prop), a_ = fr 44 ([(2, .pointer (some ⟨g_1, 0, none⟩)), (3, .pointer (some ⟨g_3, 0, none⟩)), (4, .pointer (some ⟨g_5, 0, none⟩)), (5, .pointer (some ⟨gm_29, 0, none⟩))] ++ r_) ∧ Hp w (blk gm_29 #[.slice Am_30 l0_0.length cm_31, .slice Am_32 l0_1.length cm_33, .slice Am_34 l0_2.length cm_35, .int .i64 (1 - a0_3), .int .i64 (a0_4 + 1)] 31 :: row k53 53 w.heap.size (.slice Am_30 l0_0.length cm_31) l0_0 Fm_36 :: row k53 53 w.heap.size (.slice Am_32 l0_1.length cm_33) l0_1 Fm_37 :: row (Kd.int .i64) 3 w.heap.size (.slice Am_34 l0_2.length cm_35) l0_2 Fm_38 :: blk g_5 #[.slice none 0 0, .slice none 0 0, .slice none 0 0, .int .i64 0, .int .i64 0] 31 :: blk g_3 #[.string (txt x)] 9 :: blk g_1 #[.slice A0_0 l0_0.length c0_0, .slice A0_1 l0_1.length c0_1, .slice A0_2 l0_2.length c0_2, .int .i64 a0_3, .int .i64 a0_4] 31 :: cs) W) [0, 3, 6, 9, 12] (.rd 1 (.rd 4 (.rd 7 (.rd 10 (.rd 11 (.rd 13 (.rd 14 (.alt 2 (.alt 5 (.alt 8 (.rd 15 (.alt 16 (.alt 17 (.fin) .non) .non)) (.alt 16 (.alt 8 (.rd 15 (.alt 17 (.fin) .non)) .non) (.non))) (.alt 16 (.alt 5 (.alt 8 (.rd 15 (.alt 17 (.fin) .non)) .non) .non) (.non))) (.alt 16 (.alt 2 (.alt 5 (.alt 8 (.rd 15 (.alt 17 (.fin) .non)) .non) .non) .non) (.non)))))))))) 18 (C := Hp w (blk g_5 #[.slice none 0 0, .slice none 0 0, .slice none 0 0, .int .i64 0, .int .i64 0] 31 :: blk g_3 #[.string (txt x)] 9 :: blk g_1 #[.slice A0_0 l0_0.length c0_0, .slice A0_1 l0_1.length c0_1, .slice A0_2 l0_2.length c0_2, .int .i64 a0_3, .int .i64 a0_4] 31 :: cs)) (by kernel_rfl) (by kernel_rfl) (fun d _ _ _ _ h => by cases d <;> exact h) (fun W h => h.drew) hp ?_ ?_
  ·
   refine preI_read rfl ?_
   refine sxq_val 7 (.pointer (some ⟨g_1, 0, none⟩)) (by rfl) (fun W _ => (by kernel_rfl)) ?_
   refine sxq_nil ?_
   refine preI_read rfl ?_
   refine sxq_val 10 (.pointer (some ⟨g_1, 1, none⟩)) (by rfl) (fun W _ => (by kernel_rfl)) ?_
   refine sxq_nil ?_
   refine preI_read rfl ?_
   refine sxq_val 13 (.pointer (some ⟨g_1, 2, none⟩)) (by rfl) (fun W _ => (by kernel_rfl)) ?_
   refine sxq_nil ?_
   refine preI_read rfl ?_
   refine sxq_val 16 (.pointer (some ⟨g_1, 3, none⟩)) (by rfl) (fun W _ => (by kernel_rfl)) ?_
   refine sxq_nil ?_
   refine preI_read rfl ?_
   refine sxq_val 19 (.pointer (some ⟨g_1, 4, none⟩)) (by rfl) (fun W _ => (by kernel_rfl)) ?_
   refine sxq_nil ?_
   refine preI_nil ?_
   intro W_7 hp
   refine treeI_rd rfl ?_
   refine sxq_val 8 (.slice A0_0 l0_0.length c0_0) (by rfl) (fun W hp => (ld1 (t := 29) (p := (.tmp 7)) (by rfl) (by rfl) (by kernel_rfl) (hp.cell 2 (by rfl) 0 _ (by rfl)))) ?_
   refine sxq_nil ?_
   refine treeI_rd rfl ?_
   refine sxq_val 11 (.slice A0_1 l0_1.length c0_1) (by rfl) (fun W hp => (ld1 (t := 29) (p := (.tmp 10)) (by rfl) (by rfl) (by kernel_rfl) (hp.cell 2 (by rfl) 1 _ (by rfl)))) ?_
   refine sxq_nil ?_
   refine treeI_rd rfl ?_
   refine sxq_val 14 (.slice A0_2 l0_2.length c0_2) (by rfl) (fun W hp => (ld1 (t := 23) (p := (.tmp 13)) (by rfl) (by rfl) (by kernel_rfl) (hp.cell 2 (by rfl) 2 _ (by rfl)))) ?_
   refine sxq_nil ?_
   refine treeI_rd rfl ?_
   refine sxq_val 17 (.int .i64 a0_3) (by rfl) (fun W hp => (ld1 (t := 3) (p := (.tmp 16)) (by rfl) (by rfl) (by kernel_rfl) (hp.cell 2 (by rfl) 3 _ (by rfl)))) ?_
   refine sxq_nil ?_
   refine treeI_rd rfl ?_
   refine sxq_val 18 (.int .i64 (1 - a0_3)) (by rfl) (fun W hp => (wr_ok (by omega) (by kernel_rfl))) ?_
   refine sxq_nil ?_
   refine treeI_rd rfl ?_
   refine sxq_val 20 (.int .i64 a0_4) (by rfl) (fun W hp => (ld1 (t := 3) (p := (.tmp 19)) (by rfl) (by rfl) (by kernel_rfl) (hp.cell 2 (by rfl) 4 _ (by rfl)))) ?_
   refine sxq_nil ?_
   refine treeI_rd rfl ?_
   refine sxq_val 21 (.int .i64 (a0_4 + 1)) (by rfl) (fun W hp => (wr_ok (by omega) (by kernel_rfl))) ?_
   refine sxq_nil ?_
   refine treeI_alt rfl ?_ ?_
   ·
    refine sx_call 9 (by rfl) (by kernel_rfl) ((slices_Clone_impl_Tile_impl_Tile.calls A0_0 c0_0 l0_0 _ _ (hC0_0 _ hp.tail.tail.tail) hc0_0 (cloneT_eq l0_0 (by omega))).mono ?_)
    rintro _ W_13 ⟨v_9, rfl, hR_8, hb⟩
    refine ⟨_, rfl, ?_⟩
    obtain ⟨A_10, c_11, rfl, hcc_c_11, _⟩ := Kd.R_reads hR_8
    obtain ⟨F_12, hp⟩ : ∃ F, Hp w (row k53 53 w.heap.size (.slice A_10 l0_0.length c_11) l0_0 F :: blk g_5 #[.slice none 0 0, .slice none 0 0, .slice none 0 0, .int .i64 0, .int .i64 0] 31 :: blk g_3 #[.string (txt x)] 9 :: blk g_1 #[.slice A0_0 l0_0.length c0_0, .slice A0_1 l0_1.length c0_1, .slice A0_2 l0_2.length c0_2, .int .i64 a0_3, .int .i64 a0_4] 31 :: cs) _ := ⟨_, Hp.made hp hb hR_8⟩
    refine step_fin hp.tail ?_
    refine treeI_alt rfl ?_ ?_
    ·
     refine sx_call 12 (by rfl) (by kernel_rfl) ((slices_Clone_impl_Tile_impl_Tile.calls A0_1 c0_1 l0_1 _ _ (hC0_1 _ hp.tail.tail.tail.tail) hc0_1 (cloneT_eq l0_1 (by omega))).mono ?_)
     rintro _ W_19 ⟨v_15, rfl, hR_14, hb⟩
     refine ⟨_, rfl, ?_⟩
     obtain ⟨A_16, c_17, rfl, hcc_c_17, _⟩ := Kd.R_reads hR_14
     obtain ⟨F_18, hp⟩ : ∃ F, Hp w (row k53 53 w.heap.size (.slice A_16 l0_1.length c_17) l0_1 F :: row k53 53 w.heap.size (.slice A_10 l0_0.length c_11) l0_0 F_12 :: blk g_5 #[.slice none 0 0, .slice none 0 0, .slice none 0 0, .int .i64 0, .int .i64 0] 31 :: blk g_3 #[.string (txt x)] 9 :: blk g_1 #[.slice A0_0 l0_0.length c0_0, .slice A0_1 l0_1.length c0_1, .slice A0_2 l0_2.length c0_2, .int .i64 a0_3, .int .i64 a0_4] 31 :: cs) _ := ⟨_, Hp.made hp hb hR_14⟩
     refine step_fin hp.tail.tail ?_
     refine treeI_alt rfl ?_ ?_
     ·
      refine sx_call 15 (by rfl) (by kernel_rfl) ((slices_Clone_int_int.calls A0_2 c0_2 l0_2 _ _ (hC0_2 _ hp.tail.tail.tail.tail.tail) hc0_2 (cloneI_eq l0_2 (by omega))).mono ?_)
      rintro _ W_25 ⟨v_21, rfl, hR_20, hb⟩
      refine ⟨_, rfl, ?_⟩
      obtain ⟨A_22, c_23, rfl, hcc_c_23, _⟩ := Kd.R_reads hR_20
      obtain ⟨F_24, hp⟩ : ∃ F, Hp w (row (Kd.int .i64) 3 w.heap.size (.slice A_22 l0_2.length c_23) l0_2 F :: row k53 53 w.heap.size (.slice A_16 l0_1.length c_17) l0_1 F_18 :: row k53 53 w.heap.size (.slice A_10 l0_0.length c_11) l0_0 F_12 :: blk g_5 #[.slice none 0 0, .slice none 0 0, .slice none 0 0, .int .i64 0, .int .i64 0] 31 :: blk g_3 #[.string (txt x)] 9 :: blk g_1 #[.slice A0_0 l0_0.length c0_0, .slice A0_1 l0_1.length c0_1, .slice A0_2 l0_2.length c0_2, .int .i64 a0_3, .int .i64 a0_4] 31 :: cs) _ := ⟨_, Hp.made hp hb hR_20⟩
      refine step_fin hp.tail.tail.tail ?_
      refine treeI_rd rfl ?_
      refine sxq_val 22 (.agg #[.slice A_10 l0_0.length c_11, .slice A_16 l0_1.length c_17, .slice A_22 l0_2.length c_23, .int .i64 (1 - a0_3), .int .i64 (a0_4 + 1)]) (by rfl) (fun W hp => (by kernel_rfl)) ?_
      refine sxq_nil ?_
      refine treeI_ev rfl ?_
      refine sx_box 5 hp #[.slice none 0 0, .slice none 0 0, .slice none 0 0, .int .i64 0, .int .i64 0] 31 (by rfl) (fun W => by kernel_rfl) ?_
      intro g_26 W_27 hp
      refine step_fin hp.tail.tail.tail.tail ?_
      refine treeI_ev rfl ?_
      refine sx_store (t := 31) (p := (.tmp 5)) (x := (.tmp 22)) (by rfl) (by rfl) 0 (by rfl) 0 [.slice A_10 l0_0.length c_11, .slice A_16 l0_1.length c_17, .slice A_22 l0_2.length c_23, .int .i64 (1 - a0_3), .int .i64 (a0_4 + 1)] (by rfl) (by rfl) (by kernel_rfl) (by simp [Value.oneCell']) (by show 5 ≤ 5; omega) #[.slice A_10 l0_0.length c_11, .slice A_16 l0_1.length c_17, .slice A_22 l0_2.length c_23, .int .i64 (1 - a0_3), .int .i64 (a0_4 + 1)] (by rfl) hp ?_
      intro W_28 hp; simp only [List.set_cons_succ, List.set_cons_zero] at hp
      refine step_fin hp.tail.tail.tail.tail ?_
      refine treeI_fin ?_
      exact ⟨_, g_26, A_10, c_11, A_16, c_17, A_22, c_23, F_12, F_18, F_24, fr_front [(2, .pointer (some ⟨g_1, 0, none⟩)), (3, .pointer (some ⟨g_3, 0, none⟩)), (4, .pointer (some ⟨g_5, 0, none⟩)), (5, .pointer (some ⟨g_26, 0, none⟩))] ⟨rfl, rfl, rfl, rfl, trivial⟩, (hp.take [0, 3, 2, 1, 4, 5, 6] 7 (by decide) (by simp))⟩
     refine treeI_alt rfl ?_ ?_
     ·
      refine sx_box 5 hp #[.slice none 0 0, .slice none 0 0, .slice none 0 0, .int .i64 0, .int .i64 0] 31 (by rfl) (fun W => by kernel_rfl) ?_
      intro g_39 W_40 hp
      refine step_fin hp.tail.tail.tail ?_
      refine treeI_ev rfl ?_
      refine sx_call 15 (by rfl) (by kernel_rfl) ((slices_Clone_int_int.calls A0_2 c0_2 l0_2 _ _ (hC0_2 _ hp.tail.tail.tail.tail.tail.tail) hc0_2 (cloneI_eq l0_2 (by omega))).mono ?_)
      rintro _ W_46 ⟨v_42, rfl, hR_41, hb⟩
      refine ⟨_, rfl, ?_⟩
      obtain ⟨A_43, c_44, rfl, hcc_c_44, _⟩ := Kd.R_reads hR_41
      obtain ⟨F_45, hp⟩ : ∃ F, Hp w (row (Kd.int .i64) 3 w.heap.size (.slice A_43 l0_2.length c_44) l0_2 F :: blk g_39 #[.slice none 0 0, .slice none 0 0, .slice none 0 0, .int .i64 0, .int .i64 0] 31 :: row k53 53 w.heap.size (.slice A_16 l0_1.length c_17) l0_1 F_18 :: row k53 53 w.heap.size (.slice A_10 l0_0.length c_11) l0_0 F_12 :: blk g_5 #[.slice none 0 0, .slice none 0 0, .slice none 0 0, .int .i64 0, .int .i64 0] 31 :: blk g_3 #[.string (txt x)] 9 :: blk g_1 #[.slice A0_0 l0_0.length c0_0, .slice A0_1 l0_1.length c0_1, .slice A0_2 l0_2.length c0_2, .int .i64 a0_3, .int .i64 a0_4] 31 :: cs) _ := ⟨_, Hp.made hp hb hR_41⟩
      refine step_fin hp.tail.tail.tail.tail ?_
      refine treeI_rd rfl ?_
      refine sxq_val 22 (.agg #[.slice A_10 l0_0.length c_11, .slice A_16 l0_1.length c_17, .slice A_43 l0_2.length c_44, .int .i64 (1 - a0_3), .int .i64 (a0_4 + 1)]) (by rfl) (fun W hp => (by kernel_rfl)) ?_
      refine sxq_nil ?_
      refine treeI_ev rfl ?_
      refine sx_store (t := 31) (p := (.tmp 5)) (x := (.tmp 22)) (by rfl) (by rfl) 1 (by rfl) 0 [.slice A_10 l0_0.length c_11, .slice A_16 l0_1.length c_17, .slice A_43 l0_2.length c_44, .int .i64 (1 - a0_3), .int .i64 (a0_4 + 1)] (by rfl) (by rfl) (by kernel_rfl) (by simp [Value.oneCell']) (by show 5 ≤ 5; omega) #[.slice A_10 l0_0.length c_11, .slice A_16 l0_1.length c_17, .slice A_43 l0_2.length c_44, .int .i64 (1 - a0_3), .int .i64 (a0_4 + 1)] (by rfl) hp ?_
      intro W_47 hp; simp only [List.set_cons_succ, List.set_cons_zero] at hp
      refine step_fin hp.tail.tail.tail.tail ?_
      refine treeI_fin ?_
      exact ⟨_, g_39, A_10, c_11, A_16, c_17, A_43, c_44, F_12, F_18, F_45, fr_front [(2, .pointer (some ⟨g_1, 0, none⟩)), (3, .pointer (some ⟨g_3, 0, none⟩)), (4, .pointer (some ⟨g_5, 0, none⟩)), (5, .pointer (some ⟨g_39, 0, none⟩))] ⟨rfl, rfl, rfl, rfl, trivial⟩, (hp.take [1, 3, 2, 0, 4, 5, 6] 7 (by decide) (by simp))⟩
     exact treeI_non
    refine treeI_alt rfl ?_ ?_
    ·
     refine sx_box 5 hp #[.slice none 0 0, .slice none 0 0, .slice none 0 0, .int .i64 0, .int .i64 0] 31 (by rfl) (fun W => by kernel_rfl) ?_
     intro g_48 W_49 hp
     refine step_fin hp.tail.tail ?_
     refine treeI_ev rfl ?_
     refine sx_call 12 (by rfl) (by kernel_rfl) ((slices_Clone_impl_Tile_impl_Tile.calls A0_1 c0_1 l0_1 _ _ (hC0_1 _ hp.tail.tail.tail.tail.tail) hc0_1 (cloneT_eq l0_1 (by omega))).mono ?_)
     rintro _ W_55 ⟨v_51, rfl, hR_50, hb⟩
     refine ⟨_, rfl, ?_⟩
     obtain ⟨A_52, c_53, rfl, hcc_c_53, _⟩ := Kd.R_reads hR_50
     obtain ⟨F_54, hp⟩ : ∃ F, Hp w (row k53 53 w.heap.size (.slice A_52 l0_1.length c_53) l0_1 F :: blk g_48 #[.slice none 0 0, .slice none 0 0, .slice none 0 0, .int .i64 0, .int .i64 0] 31 :: row k53 53 w.heap.size (.slice A_10 l0_0.length c_11) l0_0 F_12 :: blk g_5 #[.slice none 0 0, .slice none 0 0, .slice none 0 0, .int .i64 0, .int .i64 0] 31 :: blk g_3 #[.string (txt x)] 9 :: blk g_1 #[.slice A0_0 l0_0.length c0_0, .slice A0_1 l0_1.length c0_1, .slice A0_2 l0_2.length c0_2, .int .i64 a0_3, .int .i64 a0_4] 31 :: cs) _ := ⟨_, Hp.made hp hb hR_50⟩
     refine step_fin hp.tail.tail.tail ?_
     refine treeI_ev rfl ?_
     refine sx_call 15 (by rfl) (by kernel_rfl) ((slices_Clone_int_int.calls A0_2 c0_2 l0_2 _ _ (hC0_2 _ hp.tail.tail.tail.tail.tail.tail) hc0_2 (cloneI_eq l0_2 (by omega))).mono ?_)
     rintro _ W_61 ⟨v_57, rfl, hR_56, hb⟩
     refine ⟨_, rfl, ?_⟩
     obtain ⟨A_58, c_59, rfl, hcc_c_59, _⟩ := Kd.R_reads hR_56
     obtain ⟨F_60, hp⟩ : ∃ F, Hp w (row (Kd.int .i64) 3 w.heap.size (.slice A_58 l0_2.length c_59) l0_2 F :: row k53 53 w.heap.size (.slice A_52 l0_1.length c_53) l0_1 F_54 :: blk g_48 #[.slice none 0 0, .slice none 0 0, .slice none 0 0, .int .i64 0, .int .i64 0] 31 :: row k53 53 w.heap.size (.slice A_10 l0_0.length c_11) l0_0 F_12 :: blk g_5 #[.slice none 0 0, .slice none 0 0, .slice none 0 0, .int .i64 0, .int .i64 0] 31 :: blk g_3 #[.string (txt x)] 9 :: blk g_1 #[.slice A0_0 l0_0.length c0_0, .slice A0_1 l0_1.length c0_1, .slice A0_2 l0_2.length c0_2, .int .i64 a0_3, .int .i64 a0_4] 31 :: cs) _ := ⟨_, Hp.made hp hb hR_56⟩
     refine step_fin hp.tail.tail.tail.tail ?_
     refine treeI_rd rfl ?_
     refine sxq_val 22 (.agg #[.slice A_10 l0_0.length c_11, .slice A_52 l0_1.length c_53, .slice A_58 l0_2.length c_59, .int .i64 (1 - a0_3), .int .i64 (a0_4 + 1)]) (by rfl) (fun W hp => (by kernel_rfl)) ?_
     refine sxq_nil ?_
     refine treeI_ev rfl ?_
     refine sx_store (t := 31) (p := (.tmp 5)) (x := (.tmp 22)) (by rfl) (by rfl) 2 (by rfl) 0 [.slice A_10 l0_0.length c_11, .slice A_52 l0_1.length c_53, .slice A_58 l0_2.length c_59, .int .i64 (1 - a0_3), .int .i64 (a0_4 + 1)] (by rfl) (by rfl) (by kernel_rfl) (by simp [Value.oneCell']) (by show 5 ≤ 5; omega) #[.slice A_10 l0_0.length c_11, .slice A_52 l0_1.length c_53, .slice A_58 l0_2.length c_59, .int .i64 (1 - a0_3), .int .i64 (a0_4 + 1)] (by rfl) hp ?_
     intro W_62 hp; simp only [List.set_cons_succ, List.set_cons_zero] at hp
     refine step_fin hp.tail.tail.tail.tail ?_
     refine treeI_fin ?_
     exact ⟨_, g_48, A_10, c_11, A_52, c_53, A_58, c_59, F_12, F_54, F_60, fr_front [(2, .pointer (some ⟨g_1, 0, none⟩)), (3, .pointer (some ⟨g_3, 0, none⟩)), (4, .pointer (some ⟨g_5, 0, none⟩)), (5, .pointer (some ⟨g_48, 0, none⟩))] ⟨rfl, rfl, rfl, rfl, trivial⟩, (hp.take [2, 3, 1, 0, 4, 5, 6] 7 (by decide) (by simp))⟩
    exact treeI_non
   refine treeI_alt rfl ?_ ?_
   ·
    refine sx_box 5 hp #[.slice none 0 0, .slice none 0 0, .slice none 0 0, .int .i64 0, .int .i64 0] 31 (by rfl) (fun W => by kernel_rfl) ?_
    intro g_63 W_64 hp
    refine step_fin hp.tail ?_
    refine treeI_ev rfl ?_
    refine sx_call 9 (by rfl) (by kernel_rfl) ((slices_Clone_impl_Tile_impl_Tile.calls A0_0 c0_0 l0_0 _ _ (hC0_0 _ hp.tail.tail.tail.tail) hc0_0 (cloneT_eq l0_0 (by omega))).mono ?_)
    rintro _ W_70 ⟨v_66, rfl, hR_65, hb⟩
    refine ⟨_, rfl, ?_⟩
    obtain ⟨A_67, c_68, rfl, hcc_c_68, _⟩ := Kd.R_reads hR_65
    obtain ⟨F_69, hp⟩ : ∃ F, Hp w (row k53 53 w.heap.size (.slice A_67 l0_0.length c_68) l0_0 F :: blk g_63 #[.slice none 0 0, .slice none 0 0, .slice none 0 0, .int .i64 0, .int .i64 0] 31 :: blk g_5 #[.slice none 0 0, .slice none 0 0, .slice none 0 0, .int .i64 0, .int .i64 0] 31 :: blk g_3 #[.string (txt x)] 9 :: blk g_1 #[.slice A0_0 l0_0.length c0_0, .slice A0_1 l0_1.length c0_1, .slice A0_2 l0_2.length c0_2, .int .i64 a0_3, .int .i64 a0_4] 31 :: cs) _ := ⟨_, Hp.made hp hb hR_65⟩
    refine step_fin hp.tail.tail ?_
    refine treeI_ev rfl ?_
    refine sx_call 12 (by rfl) (by kernel_rfl) ((slices_Clone_impl_Tile_impl_Tile.calls A0_1 c0_1 l0_1 _ _ (hC0_1 _ hp.tail.tail.tail.tail.tail) hc0_1 (cloneT_eq l0_1 (by omega))).mono ?_)
    rintro _ W_76 ⟨v_72, rfl, hR_71, hb⟩
    refine ⟨_, rfl, ?_⟩
    obtain ⟨A_73, c_74, rfl, hcc_c_74, _⟩ := Kd.R_reads hR_71
    obtain ⟨F_75, hp⟩ : ∃ F, Hp w (row k53 53 w.heap.size (.slice A_73 l0_1.length c_74) l0_1 F :: row k53 53 w.heap.size (.slice A_67 l0_0.length c_68) l0_0 F_69 :: blk g_63 #[.slice none 0 0, .slice none 0 0, .slice none 0 0, .int .i64 0, .int .i64 0] 31 :: blk g_5 #[.slice none 0 0, .slice none 0 0, .slice none 0 0, .int .i64 0, .int .i64 0] 31 :: blk g_3 #[.string (txt x)] 9 :: blk g_1 #[.slice A0_0 l0_0.length c0_0, .slice A0_1 l0_1.length c0_1, .slice A0_2 l0_2.length c0_2, .int .i64 a0_3, .int .i64 a0_4] 31 :: cs) _ := ⟨_, Hp.made hp hb hR_71⟩
    refine step_fin hp.tail.tail.tail ?_
    refine treeI_ev rfl ?_
    refine sx_call 15 (by rfl) (by kernel_rfl) ((slices_Clone_int_int.calls A0_2 c0_2 l0_2 _ _ (hC0_2 _ hp.tail.tail.tail.tail.tail.tail) hc0_2 (cloneI_eq l0_2 (by omega))).mono ?_)
    rintro _ W_82 ⟨v_78, rfl, hR_77, hb⟩
    refine ⟨_, rfl, ?_⟩
    obtain ⟨A_79, c_80, rfl, hcc_c_80, _⟩ := Kd.R_reads hR_77
    obtain ⟨F_81, hp⟩ : ∃ F, Hp w (row (Kd.int .i64) 3 w.heap.size (.slice A_79 l0_2.length c_80) l0_2 F :: row k53 53 w.heap.size (.slice A_73 l0_1.length c_74) l0_1 F_75 :: row k53 53 w.heap.size (.slice A_67 l0_0.length c_68) l0_0 F_69 :: blk g_63 #[.slice none 0 0, .slice none 0 0, .slice none 0 0, .int .i64 0, .int .i64 0] 31 :: blk g_5 #[.slice none 0 0, .slice none 0 0, .slice none 0 0, .int .i64 0, .int .i64 0] 31 :: blk g_3 #[.string (txt x)] 9 :: blk g_1 #[.slice A0_0 l0_0.length c0_0, .slice A0_1 l0_1.length c0_1, .slice A0_2 l0_2.length c0_2, .int .i64 a0_3, .int .i64 a0_4] 31 :: cs) _ := ⟨_, Hp.made hp hb hR_77⟩
    refine step_fin hp.tail.tail.tail.tail ?_
    refine treeI_rd rfl ?_
    refine sxq_val 22 (.agg #[.slice A_67 l0_0.length c_68, .slice A_73 l0_1.length c_74, .slice A_79 l0_2.length c_80, .int .i64 (1 - a0_3), .int .i64 (a0_4 + 1)]) (by rfl) (fun W hp => (by kernel_rfl)) ?_
    refine sxq_nil ?_
    refine treeI_ev rfl ?_
    refine sx_store (t := 31) (p := (.tmp 5)) (x := (.tmp 22)) (by rfl) (by rfl) 3 (by rfl) 0 [.slice A_67 l0_0.length c_68, .slice A_73 l0_1.length c_74, .slice A_79 l0_2.length c_80, .int .i64 (1 - a0_3), .int .i64 (a0_4 + 1)] (by rfl) (by rfl) (by kernel_rfl) (by simp [Value.oneCell']) (by show 5 ≤ 5; omega) #[.slice A_67 l0_0.length c_68, .slice A_73 l0_1.length c_74, .slice A_79 l0_2.length c_80, .int .i64 (1 - a0_3), .int .i64 (a0_4 + 1)] (by rfl) hp ?_
    intro W_83 hp; simp only [List.set_cons_succ, List.set_cons_zero] at hp
    refine step_fin hp.tail.tail.tail.tail ?_
    refine treeI_fin ?_
    exact ⟨_, g_63, A_67, c_68, A_73, c_74, A_79, c_80, F_69, F_75, F_81, fr_front [(2, .pointer (some ⟨g_1, 0, none⟩)), (3, .pointer (some ⟨g_3, 0, none⟩)), (4, .pointer (some ⟨g_5, 0, none⟩)), (5, .pointer (some ⟨g_63, 0, none⟩))] ⟨rfl, rfl, rfl, rfl, trivial⟩, (hp.take [3, 2, 1, 0, 4, 5, 6] 7 (by decide) (by simp))⟩
   exact treeI_non
  ·
   rintro _ W_84 ⟨r_, gm_29, Am_30, cm_31, Am_32, cm_33, Am_34, cm_35, Fm_36, Fm_37, Fm_38, rfl, hp⟩
   refine sx_nil ?_
   refine ex_then_n ?_
   refine wp_seq ?_
   refine wp_seq ?_
   refine sx_region ?_
   refine sx_rd 23 (.string (txt x)) (by rfl) (ld1 (t := 9) (p := (.tmp 3)) (by rfl) (by rfl) (by kernel_rfl) (hp.cell 5 (by rfl) 0 _ (by rfl))) ?_
   refine sx_rd 24 (.bool (decide ((txt x) = (⟨#[45]⟩ : ByteArray)))) (by rfl) (seq_run (by rfl) (by rfl) (by rfl)) ?_
   refine sx_nil ?_
   refine ex_then_n ?_
   refine sx_cond (decide ((txt x) = (⟨#[45]⟩ : ByteArray))) (by rfl) (fun c_85 => ?_) (fun c_85 => ?_)
   ·
    have c_85p := of_decide_eq_true c_85
    have hx2 : x.f2 = true := by rw [← txt_pass_iff x]; exact c_85
    refine wp_seq ?_
    refine sx_region ?_
    refine sx_rd 25 (.agg #[.slice Am_30 l0_0.length cm_31, .slice Am_32 l0_1.length cm_33, .slice Am_34 l0_2.length cm_35, .int .i64 (1 - a0_3), .int .i64 (a0_4 + 1)]) (by rfl) (ldn (t := 31) (p := (.tmp 5)) (by rfl) (by rfl) (by kernel_rfl) (by kernel_rfl) (by kernel_rfl) (hp.at_ 0 _ (by rfl))) ?_
    refine sx_store (t := 31) (p := (.tmp 4)) (x := (.tmp 25)) (by rfl) (by rfl) 4 (by rfl) 0 [.slice Am_30 l0_0.length cm_31, .slice Am_32 l0_1.length cm_33, .slice Am_34 l0_2.length cm_35, .int .i64 (1 - a0_3), .int .i64 (a0_4 + 1)] (by rfl) (by rfl) (by kernel_rfl) (by simp [Value.oneCell']) (by show 5 ≤ 5; omega) #[.slice Am_30 l0_0.length cm_31, .slice Am_32 l0_1.length cm_33, .slice Am_34 l0_2.length cm_35, .int .i64 (1 - a0_3), .int .i64 (a0_4 + 1)] (by rfl) hp ?_
    intro W_86 hp; simp only [List.set_cons_succ, List.set_cons_zero] at hp
    refine sx_nil ?_
    refine ex_then_n ?_
    refine wp_ret ?_
    refine ex_then_r ?_
    refine sx_end (.agg #[.slice Am_30 l0_0.length cm_31, .slice Am_32 l0_1.length cm_33, .slice Am_34 l0_2.length cm_35, .int .i64 (1 - a0_3), .int .i64 (a0_4 + 1)]) (resc (by rfl) (by rfl) (by kernel_rfl) (by kernel_rfl) (hp.at_ 4 _ (by rfl))) ?_
    unfold Gm.make at h; rw [if_pos hx2] at h
    simp only [Option.some.injEq, Prod.mk.injEq] at h; obtain ⟨rfl, rfl, rfl, rfl, rfl⟩ := h
    exact ⟨_, _, _, rfl, Kd.R_mono (row_R (hp.at_ 1 _ (by rfl))) (fun k_ hk_ => Hp.apart_rows hp 1 2 (by decide) (by rfl) (by rfl) k_ hk_), Kd.R_mono (row_R (hp.at_ 2 _ (by rfl))) (fun k_ hk_ => Hp.apart_rows hp 2 1 (by decide) (by rfl) (by rfl) k_ hk_), Kd.R_mono (row_R (hp.at_ 3 _ (by rfl))) (fun _ _ => trivial), hc2 _ (hp.tail.tail.tail.tail.tail.tail.tail)⟩
   ·
    have c_85p := of_decide_eq_false c_85
    have hx2 : x.f2 = false := by rw [← txt_pass_iff x]; exact c_85
    obtain ⟨-, rfl | ⟨-, -, hgx, hx0, hxh⟩⟩ := moves_mem (g := ⟨l0_0, l0_1, l0_2, a0_3, a0_4⟩) hmem
    case inl => cases hx2
    refine wp_skip ?_
    refine ex_then_n ?_
    refine wp_seq ?_
    refine sx_region ?_
    refine sx_rd 26 (.func (.func 64) #[] #[.pointer (some ⟨g_3, 0, none⟩)]) (by rfl) (by kernel_rfl) ?_
    refine sx_rd 6 (.func (.func 64) #[] #[.pointer (some ⟨g_3, 0, none⟩)]) (by rfl) (by kernel_rfl) ?_
    refine sx_nil ?_
    refine ex_then_n ?_
    refine wp_seq ?_
    refine sx_drawT2 [0, 2, 4, 6] (.rd 1 (.rd 5 (.alt 3 (.rd 8 (.alt 7 (.fin) .non)) .non))) 9 (C := Hp w (blk gm_29 #[.slice Am_30 l0_0.length cm_31, .slice Am_32 l0_1.length cm_33, .slice Am_34 l0_2.length cm_35, .int .i64 (1 - a0_3), .int .i64 (a0_4 + 1)] 31 :: row (Kd.int .i64) 3 w.heap.size (.slice Am_34 l0_2.length cm_35) l0_2 Fm_38 :: blk g_5 #[.slice none 0 0, .slice none 0 0, .slice none 0 0, .int .i64 0, .int .i64 0] 31 :: blk g_3 #[.string (txt x)] 9 :: blk g_1 #[.slice A0_0 l0_0.length c0_0, .slice A0_1 l0_1.length c0_1, .slice A0_2 l0_2.length c0_2, .int .i64 a0_3, .int .i64 a0_4] 31 :: cs)) (Hp w (blk gm_29 #[.slice Am_30 l0_0.length cm_31, .slice Am_32 l0_1.length cm_33, .slice Am_34 l0_2.length cm_35, .int .i64 (1 - a0_3), .int .i64 (a0_4 + 1)] 31 :: row k53 53 w.heap.size (.slice Am_30 l0_0.length cm_31) l0_0 Fm_36 :: row k53 53 w.heap.size (.slice Am_32 l0_1.length cm_33) l0_1 Fm_37 :: row (Kd.int .i64) 3 w.heap.size (.slice Am_34 l0_2.length cm_35) l0_2 Fm_38 :: blk g_5 #[.slice none 0 0, .slice none 0 0, .slice none 0 0, .int .i64 0, .int .i64 0] 31 :: blk g_3 #[.string (txt x)] 9 :: blk g_1 #[.slice A0_0 l0_0.length c0_0, .slice A0_1 l0_1.length c0_1, .slice A0_2 l0_2.length c0_2, .int .i64 a0_3, .int .i64 a0_4] 31 :: cs)) (fun W h => h.take [0, 3, 4, 5, 6] 7 (by decide) (by simp)) (by kernel_rfl) (by kernel_rfl) (fun d _ _ _ _ h => by cases d <;> exact h) (fun W h => h.drew) hp ?_
    refine preI_read rfl ?_
    refine sxq_val 27 (.pointer (some ⟨gm_29, 0, none⟩)) (by rfl) (fun W _ => (by kernel_rfl)) ?_
    refine sxq_nil ?_
    refine preI_read rfl ?_
    refine sxq_val 29 (.func (.func 64) #[] #[.pointer (some ⟨g_3, 0, none⟩)]) (by rfl) (fun W _ => (by kernel_rfl)) ?_
    refine sxq_nil ?_
    refine preI_read rfl ?_
    refine sxq_val 31 (.pointer (some ⟨gm_29, 1, none⟩)) (by rfl) (fun W _ => (by kernel_rfl)) ?_
    refine sxq_nil ?_
    refine preI_read rfl ?_
    refine sxq_val 33 (.func (.func 64) #[] #[.pointer (some ⟨g_3, 0, none⟩)]) (by rfl) (fun W _ => (by kernel_rfl)) ?_
    refine sxq_nil ?_
    refine preI_nil ?_
    intro W_87 hp
    refine treeI_rd rfl ?_
    refine sxq_val 28 (.slice Am_30 l0_0.length cm_31) (by rfl) (fun W hp => (ld1 (t := 29) (p := (.tmp 27)) (by rfl) (by rfl) (by kernel_rfl) (hp.cell 0 (by rfl) 0 _ (by rfl)))) ?_
    refine sxq_nil ?_
    refine treeI_rd rfl ?_
    refine sxq_val 32 (.slice Am_32 l0_1.length cm_33) (by rfl) (fun W hp => (ld1 (t := 29) (p := (.tmp 31)) (by rfl) (by rfl) (by kernel_rfl) (hp.cell 0 (by rfl) 1 _ (by rfl)))) ?_
    refine sxq_nil ?_
    refine treeI_ev rfl ?_
    refine sx_call 30 (by rfl) (by kernel_rfl) ((delF_sx g_3 x hx2 hgx (by omega) (hp.take [1, 5, 0, 2, 3, 4, 6] 7 (by decide) (by simp))).mono ?_)
    rintro _ W_89 ⟨F_88, rfl, hp⟩
    refine ⟨_, rfl, ?_⟩
    refine step_fin (hp.take [2, 4, 5, 1, 6] 7 (by decide) (by simp)) ?_
    refine treeI_rd rfl ?_
    refine sxq_val 35 (.pointer (some ⟨gm_29, 0, none⟩)) (by rfl) (fun W hp => (by kernel_rfl)) ?_
    refine sxq_nil ?_
    refine treeI_ev rfl ?_
    refine sx_call 34 (by rfl) (by kernel_rfl) ((delF_sx g_3 x hx2 hgx (by omega) (hp.take [3, 1, 0, 2, 4, 5, 6] 7 (by decide) (by simp))).mono ?_)
    rintro _ W_91 ⟨F_90, rfl, hp⟩
    refine ⟨_, rfl, ?_⟩
    refine step_fin (hp.take [3, 4, 5, 1, 6] 7 (by decide) (by simp)) ?_
    refine treeI_fin ?_
    refine tail_of [9, 10, 11] (by rfl) ?_
    refine tailI_op rfl ?_
    refine sx_store (t := 29) (p := (.tmp 35)) (x := (.tmp 30)) (by rfl) (by rfl) 3 (by rfl) 0 [.slice Am_30 ((gone1 l0_0 x.f0).length) cm_31] (by rfl) (by rfl) (by kernel_rfl) (by simp [Value.oneCell']) (by show 1 ≤ 5; omega) #[.slice Am_30 ((gone1 l0_0 x.f0).length) cm_31, .slice Am_32 l0_1.length cm_33, .slice Am_34 l0_2.length cm_35, .int .i64 (1 - a0_3), .int .i64 (a0_4 + 1)] (by rfl) hp ?_
    intro W_92 hp; simp only [List.set_cons_succ, List.set_cons_zero] at hp
    refine tailI_next ?_
    refine tailI_op rfl ?_
    refine sx_rd 36 (.pointer (some ⟨gm_29, 1, none⟩)) (by rfl) (by kernel_rfl) ?_
    refine tailI_next ?_
    refine tailI_op rfl ?_
    refine sx_store (t := 29) (p := (.tmp 36)) (x := (.tmp 34)) (by rfl) (by rfl) 3 (by rfl) 1 [.slice Am_32 ((gone1 l0_1 x.f0).length) cm_33] (by rfl) (by rfl) (by kernel_rfl) (by simp [Value.oneCell']) (by show 2 ≤ 5; omega) #[.slice Am_30 ((gone1 l0_0 x.f0).length) cm_31, .slice Am_32 ((gone1 l0_1 x.f0).length) cm_33, .slice Am_34 l0_2.length cm_35, .int .i64 (1 - a0_3), .int .i64 (a0_4 + 1)] (by rfl) hp ?_
    intro W_93 hp; simp only [List.set_cons_succ, List.set_cons_zero] at hp
    refine tailI_next ?_
    refine tailI_nil ?_
    refine ex_then_n ?_
    refine wp_seq ?_
    refine sx_region ?_
    refine sx_rd 37 (.pointer (some ⟨g_1, 2, none⟩)) (by rfl) (by kernel_rfl) ?_
    refine sx_rd 38 (.slice A0_2 l0_2.length c0_2) (by rfl) (ld1 (t := 23) (p := (.tmp 37)) (by rfl) (by rfl) (by kernel_rfl) (hp.cell 6 (by rfl) 2 _ (by rfl))) ?_
    refine sx_rd 39 (.string (txt x)) (by rfl) (ld1 (t := 9) (p := (.tmp 3)) (by rfl) (by rfl) (by kernel_rfl) (hp.cell 1 (by rfl) 0 _ (by rfl))) ?_
    obtain ⟨k_94, hk_k_94⟩ := Ev.rounds (laid_ev l0_2 hx2 hgx hx0 hxh (by omega))
    refine sx_call 40 (by rfl) (by kernel_rfl) ((impl_laid.calls k_94 _ A0_2 c0_2 l0_2 (txt x) _ _ (Kd.V_mk hc0_2 (Kd.C_F (Kd.heap_int _) (hC0_2 _ hp.tail.tail.tail.tail.tail.tail.tail))) hk_k_94).mono ?_)
    rintro _ W_100 ⟨v_96, rfl, hR_95, hb⟩
    refine ⟨_, rfl, ?_⟩
    obtain ⟨A_97, c_98, rfl, hcc_c_98, _⟩ := Kd.R_reads hR_95
    obtain ⟨F_99, hp⟩ : ∃ F, Hp w (row (Kd.int .i64) 3 w.heap.size (.slice A_97 (rowP l0_2 x).length c_98) (rowP l0_2 x) F :: row k53 53 w.heap.size (.slice Am_32 ((gone1 l0_1 x.f0).length) cm_33) (gone1 l0_1 x.f0) F_90 :: blk g_3 #[.string (txt x)] 9 :: row k53 53 w.heap.size (.slice Am_30 ((gone1 l0_0 x.f0).length) cm_31) (gone1 l0_0 x.f0) F_88 :: blk gm_29 #[.slice Am_30 ((gone1 l0_0 x.f0).length) cm_31, .slice Am_32 ((gone1 l0_1 x.f0).length) cm_33, .slice Am_34 l0_2.length cm_35, .int .i64 (1 - a0_3), .int .i64 (a0_4 + 1)] 31 :: row (Kd.int .i64) 3 w.heap.size (.slice Am_34 l0_2.length cm_35) l0_2 Fm_38 :: blk g_5 #[.slice none 0 0, .slice none 0 0, .slice none 0 0, .int .i64 0, .int .i64 0] 31 :: blk g_1 #[.slice A0_0 l0_0.length c0_0, .slice A0_1 l0_1.length c0_1, .slice A0_2 l0_2.length c0_2, .int .i64 a0_3, .int .i64 a0_4] 31 :: cs) _ := ⟨_, Hp.made hp hb hR_95⟩
    refine sx_rd 41 (.pointer (some ⟨gm_29, 2, none⟩)) (by rfl) (by kernel_rfl) ?_
    refine sx_store (t := 23) (p := (.tmp 41)) (x := (.tmp 40)) (by rfl) (by rfl) 4 (by rfl) 2 [.slice A_97 ((rowP l0_2 x).length) c_98] (by rfl) (by rfl) (by kernel_rfl) (by simp [Value.oneCell']) (by show 3 ≤ 5; omega) #[.slice Am_30 ((gone1 l0_0 x.f0).length) cm_31, .slice Am_32 ((gone1 l0_1 x.f0).length) cm_33, .slice A_97 ((rowP l0_2 x).length) c_98, .int .i64 (1 - a0_3), .int .i64 (a0_4 + 1)] (by rfl) hp ?_
    intro W_101 hp; simp only [List.set_cons_succ, List.set_cons_zero] at hp
    refine sx_rd 42 (.pointer (some ⟨gm_29, 4, none⟩)) (by rfl) (by kernel_rfl) ?_
    refine sx_store (t := 3) (p := (.tmp 42)) (x := (.const (Go.Value.int Go.IntKind.i64 0))) (by rfl) (by rfl) 4 (by rfl) 4 [.int .i64 0] (by rfl) (by rfl) (by kernel_rfl) (by simp [Value.oneCell']) (by show 5 ≤ 5; omega) #[.slice Am_30 ((gone1 l0_0 x.f0).length) cm_31, .slice Am_32 ((gone1 l0_1 x.f0).length) cm_33, .slice A_97 ((rowP l0_2 x).length) c_98, .int .i64 (1 - a0_3), .int .i64 0] (by rfl) hp ?_
    intro W_102 hp; simp only [List.set_cons_succ, List.set_cons_zero] at hp
    refine sx_nil ?_
    refine ex_then_n ?_
    refine wp_seq ?_
    refine sx_region ?_
    refine sx_rd 43 (.agg #[.slice Am_30 ((gone1 l0_0 x.f0).length) cm_31, .slice Am_32 ((gone1 l0_1 x.f0).length) cm_33, .slice A_97 ((rowP l0_2 x).length) c_98, .int .i64 (1 - a0_3), .int .i64 0]) (by rfl) (ldn (t := 31) (p := (.tmp 5)) (by rfl) (by rfl) (by kernel_rfl) (by kernel_rfl) (by kernel_rfl) (hp.at_ 4 _ (by rfl))) ?_
    refine sx_store (t := 31) (p := (.tmp 4)) (x := (.tmp 43)) (by rfl) (by rfl) 6 (by rfl) 0 [.slice Am_30 ((gone1 l0_0 x.f0).length) cm_31, .slice Am_32 ((gone1 l0_1 x.f0).length) cm_33, .slice A_97 ((rowP l0_2 x).length) c_98, .int .i64 (1 - a0_3), .int .i64 0] (by rfl) (by rfl) (by kernel_rfl) (by simp [Value.oneCell']) (by show 5 ≤ 5; omega) #[.slice Am_30 ((gone1 l0_0 x.f0).length) cm_31, .slice Am_32 ((gone1 l0_1 x.f0).length) cm_33, .slice A_97 ((rowP l0_2 x).length) c_98, .int .i64 (1 - a0_3), .int .i64 0] (by rfl) hp ?_
    intro W_103 hp; simp only [List.set_cons_succ, List.set_cons_zero] at hp
    refine sx_nil ?_
    refine ex_then_n ?_
    refine wp_ret ?_
    refine sx_end (.agg #[.slice Am_30 ((gone1 l0_0 x.f0).length) cm_31, .slice Am_32 ((gone1 l0_1 x.f0).length) cm_33, .slice A_97 ((rowP l0_2 x).length) c_98, .int .i64 (1 - a0_3), .int .i64 0]) (resc (by rfl) (by rfl) (by kernel_rfl) (by kernel_rfl) (hp.at_ 6 _ (by rfl))) ?_
    unfold Gm.make at h; rw [if_neg (by rw [hx2]; simp)] at h
    simp only [Option.some.injEq, Prod.mk.injEq] at h; obtain ⟨rfl, rfl, rfl, rfl, rfl⟩ := h
    exact ⟨_, _, _, rfl, Kd.R_mono (row_R (hp.at_ 3 _ (by rfl))) (fun k_ hk_ => Hp.apart_rows hp 3 1 (by decide) (by rfl) (by rfl) k_ hk_), Kd.R_mono (row_R (hp.at_ 1 _ (by rfl))) (fun k_ hk_ => Hp.apart_rows hp 1 3 (by decide) (by rfl) (by rfl) k_ hk_), Kd.R_mono (row_R (hp.at_ 0 _ (by rfl))) (fun _ _ => trivial), hc2 _ (hp.tail.tail.tail.tail.tail.tail.tail.tail)⟩
end Go.Proofs.YtjaojemmbeddfaaGreat.Hd
