/- Rows of the call's own: cut, appended to within their room, and cells behind them cleared. -/
import Derived.Test.YtbkaedmabdgdhaaMSx3
import Derived.Laws.OwnMore
namespace Go.Proofs.Ytbkaedmabdgdhaa.Hd
open Go.RowKit Go.Proofs.YtbkaedmabdgdhaaW.PrintWords Go.Proofs.YtbkaedmabdgdhaaW.PrintLast Go.Proofs.YtbkaedmabdgdhaaW.PrintMore
set_option linter.unusedVariables false
set_option linter.unusedSimpArgs false
theorem Reps.take_ {α : Type} {R : α → List Value → Prop} {size : Nat} {ps : List α} {cs : List Value} (h : Reps R size ps cs) (m : Nat) (hm : m ≤ ps.length) : Reps R size (ps.take m) (cs.take (m * size)) := by
  have hl : m * size ≤ cs.length := by rw [h.1]; exact Nat.mul_le_mul_right _ hm
  refine ⟨by rw [List.length_take, List.length_take, Nat.min_eq_left hl, Nat.min_eq_left hm], fun j p hj => ?_⟩
  rw [List.getElem?_take] at hj
  split at hj
  · rename_i hjm
    have h1 := h.2 j p hj
    have e : ((cs.take (m * size)).drop (j * size)).take size = (cs.drop (j * size)).take size := by
      rw [List.drop_take, List.take_take]
      congr 1
      have h2 : (j + 1) * size ≤ m * size := Nat.mul_le_mul_right _ hjm
      rw [Nat.add_mul, Nat.one_mul] at h2
      omega
    rw [e]; exact h1
  · cases hj
theorem own_cut {W : World} {base e size g n c : Nat} {inner : List Value} (h : W.ownsRow base e size (.slice (some ⟨g, 0, none⟩) n c) n inner) (k : Nat) (hk : k ≤ n) : W.ownsRow base e size (.slice (some ⟨g, 0, none⟩) k c) k (inner.take (k * size)) := by
  have hle : k * size ≤ n * size := Nat.mul_le_mul_right _ hk
  refine ⟨by rw [List.length_take, h.1]; exact Nat.min_eq_left hle, ?_⟩
  rcases h.2 with ⟨e0, _⟩ | ⟨g', cap, cur, e0, hb, hh, hnc, hcm, hcs, htk⟩
  · cases e0
  · injection e0 with e1 e2 e3
    injection e1 with e1
    injection e1 with e1
    subst e1; subst e3
    exact .inr ⟨g, c, cur, rfl, hb, hh, by omega, hcm, hcs, by rw [← htk, List.take_take, Nat.min_eq_left hle]⟩
theorem R_cut {α : Type} {d : Kd α} {e base g n c : Nat} {W : World} {ok : Nat → Prop} {xs : List α} (h : d.R e W base ok (.slice (some ⟨g, 0, none⟩) n c) xs) (k : Nat) (hk : k ≤ n) : d.R e W base ok (.slice (some ⟨g, 0, none⟩) k c) (xs.take k) := by
  have hn : n = xs.length := (Kd.R_reads' h).1
  obtain ⟨hok, inner, hown, hr⟩ := h
  subst hn
  refine ⟨hok, inner.take (k * d.sz), ?_, Reps.take_ hr k hk⟩
  have h2 := own_cut hown k hk
  have e1 : (xs.take k).length = k := by rw [List.length_take]; omega
  rw [e1]
  exact h2
section
variable {α : Type} {P : Program} {ops : Array Oper} {Q : Exit → Act → World → Prop} {N : Nat} {s : List (Nat × Value)} {rest : List Oper} {o : Oper} {w0 W W' : World} {cs : List Chunk}
theorem Hp.cut (hp : Hp w0 cs W) (i : Nat) {d : Kd α} {e base g n c : Nat} {xs : List α} {F : Nat → Prop} (hc : cs[i]? = some (row d e base (.slice (some ⟨g, 0, none⟩) n c) xs F)) (k : Nat) (hk : k ≤ n) : Hp w0 (cs.set i (row d e base (.slice (some ⟨g, 0, none⟩) k c) (xs.take k) F)) W :=
  have hrow := hp.at_ i _ hc
  hp.upd i _ _ hc (Mv.refl _ _) ⟨R_cut hrow.1 k hk, hrow.2⟩ (fun q hq => .inl hq)
theorem sx_appfit (q : Nat) (hk : okB o q N = true) (d : Kd α) (i : Nat) {e base g n c : Nat} {xs : List α} {F : Nat → Prop} (hc : cs[i]? = some (row d e base (.slice (some ⟨g, 0, none⟩) n c) xs F)) {S X : Operand} {t : TypeId}
    (ho : o.op = .call { callee := .builtin .append, args := #[S, X], argTypes := #[t, t] }) (ht : P.underlying t = some (.slice e)) (hinfo : (P.info? e).map (·.size) = some d.sz) (hs0 : 0 < d.sz)
    {A : Option Addr} {m c2 k : Nat} (ys : List α) (hs : evl N s S = .slice (some ⟨g, 0, none⟩) k c) (hx : evl N s X = .slice A m c2) (HR : d.C W A m ys) (hKM : ∀ x cs, d.K W x cs → d.M W base (fun _ => False) x cs) (hkn : k ≤ n) (hfit : k + m ≤ c) (hp : Hp w0 cs W)
    (h : ∀ F' W', Hp w0 (cs.set i (row d e base (.slice (some ⟨g, 0, none⟩) (k + m) c) (xs.take k ++ ys) F')) W' → WL P ops Q rest (fr N ((q, .slice (some ⟨g, 0, none⟩) (k + m) c) :: s)) W') : WL P ops Q (o :: rest) (fr N s) W := by
  refine ⟨?_⟩
  obtain ⟨h1, h2, h3⟩ := okB_spec hk
  have hrow := hp.at_ i _ hc
  obtain ⟨i0, hi, hz1⟩ := Option.map_eq_some_iff.1 hinfo
  have hn : n = xs.length := (Kd.R_reads' hrow.1).1
  have hm : ys.length = m := HR.1
  have hcutR := R_cut hrow.1 k hkn
  obtain ⟨hok, inner, hown, hr⟩ := hcutR
  have hkl : (xs.take k).length = k := by rw [List.length_take]; omega
  rw [hkl] at hown
  have hrun : ∃ w1, (Builtin.append_ #[t, t] o.type #[.slice (some ⟨g, 0, none⟩) k c, .slice A m c2]).run P W = .ok (.slice (some ⟨g, 0, none⟩) (k + m) c) w1 ∧ d.R e w1 base F (.slice (some ⟨g, 0, none⟩) (k + m) c) (xs.take k ++ ys) ∧ W.grownBy w1 (some g) := by
    rcases A with _ | ad
    · have h0 : m = 0 := by
        rcases Nat.eq_zero_or_pos m with h0 | h0
        · exact h0
        · obtain ⟨ad, h, _⟩ := HR.2.2 h0
          cases h
      subst h0
      obtain rfl : ys = [] := List.eq_nil_of_length_eq_zero hm
      refine ⟨W, ?_, by rw [List.append_nil]; exact R_cut hrow.1 k hkn, World.grownBy.refl W _⟩
      simp [Builtin.append_, run_underlying ht, sizeOf, typeInfo, hi, Builtin.lenOf, Builtin.firstCells, hfit, storeCells]
      try omega
    · obtain ⟨news, hnr, hnc⟩ := ReadsRow.inner_ HR
      have hnM : Reps (d.M W base (fun _ => False)) d.sz ys news := hnr.imp_ (fun p c hp => hKM p c hp)
      have hone : ∀ u ∈ news, u.oneCell' = true := by
        intro u hu
        obtain ⟨q, hq, rfl⟩ := List.mem_iff_getElem.1 hu
        have hql : q / d.sz < ys.length := by
          rw [Nat.div_lt_iff_lt_mul hs0]
          rw [← hnM.1]
          exact hq
        have hc := hnM.2 (q / d.sz) _ (List.getElem?_eq_getElem hql)
        refine d.K_one (d.K_of_M hc) _ ?_
        rw [List.mem_iff_getElem?]
        refine ⟨q % d.sz, ?_⟩
        rw [List.getElem?_take, if_pos (Nat.mod_lt _ hs0), List.getElem?_drop, Nat.mul_comm, Nat.div_add_mod, List.getElem?_eq_getElem hq]
      obtain ⟨w1, hr1, hown1, hg⟩ := run_append_fits (P := P) W base t o.type e i0 d.sz ht hi hz1 g k c inner hown ad m c2 news (by rw [hnM.1, hm]) hnc hone hfit
      have step : ∀ {q : α} {c' : List Value} {o' : Nat → Prop}, d.M W base o' q c' → (∀ j, o' j → F j ∧ some j ≠ some g) → d.M w1 base (fun j => F j ∧ some j ≠ (Value.slice (some ⟨g, 0, none⟩) (k + m) c).ownBlock) q c' := by
        intro q c' o' hq ho'
        have h1 := d.M_move (w1 := w1) (fun j hj => hg.block j hj.2.2.1 (ho' j hj.1).2) (d.M_bound hq)
        exact d.M_mono (fun j hj => ho' j hj.1) h1
      refine ⟨w1, hr1, ⟨fun j hj => hok j hj, inner ++ news, ?_, Kd.reps_append (hr.imp_ (fun _ _ hq => step hq (fun _ hk => hk))) (hnM.imp_ (fun _ _ hq => step hq (fun _ hk => hk.elim)))⟩, hg⟩
      have e1 : (xs.take k ++ ys).length = k + m := by rw [List.length_append, hkl, hm]
      rw [e1]
      exact hown1
  obtain ⟨w1, hr1, hR1, hg⟩ := hrun
  refine wpList_plain h1 fun K hK => ?_
  unfold Oper.wp execOp
  rw [fr_eval]
  simp only [ho, resolve, invoke, builtin, Sem.run_bind, Sem.run_pure, Result.andThen_ok, List.map_toArray, List.map_cons, List.map_nil, hs, hx, hr1]
  show K ((fr N s).put o.dst _) w1
  rw [h2, fr_put _ _ h3]
  exact hK _ _ (h F w1 (hp.upd i _ (row d e base (.slice (some ⟨g, 0, none⟩) (k + m) c) (xs.take k ++ ys) F) hc ((Mv.of_grown hg).mono (fun j hj => by injection hj with hj; subst hj; exact hrow.1.1 g (by simp [Value.ownBlock]))) ⟨hR1, fun j hj => Nat.lt_of_lt_of_le (hrow.2 j hj) hg.size⟩ (fun j hj => .inl hj))).out
/-- Cells behind a row are cleared: the row is as it was. -/
theorem clear_run (hp : Hp w0 cs W) (i : Nat) {d : Kd α} {e base g n c : Nat} {xs : List α} {F : Nat → Prop} (hc : cs[i]? = some (row d e base (.slice (some ⟨g, 0, none⟩) n c) xs F)) {t ty : TypeId} {A2 : Option Addr} {m c2 : Nat} (hA : 0 < m → A2 = some ⟨g, n * d.sz, none⟩) (hfit : n + m ≤ c)
    (ht : P.underlying t = some (.slice e)) (z : Value) (hinfo : (P.info? e).map (fun i => (i.zero, i.size)) = some (some z, d.sz)) (hz : z.cells.size = d.sz) (hone : z.cells.all (·.oneCell') = true) :
    ∃ W', (Builtin.clear_ #[t] ty #[.slice A2 m c2]).run P W = .ok (.tuple #[]) W' ∧ Hp w0 cs W' := by
  rcases Nat.eq_zero_or_pos m with h0 | h0
  · subst h0
    refine ⟨W, ?_, hp⟩
    cases A2 <;> simp [Builtin.clear_, run_underlying ht]
  · obtain rfl := hA h0
    have hrow := hp.at_ i _ hc
    obtain ⟨i0, hi, hzz⟩ := Option.map_eq_some_iff.1 hinfo
    simp only [Prod.mk.injEq] at hzz
    obtain ⟨hz0, hz1⟩ := hzz
    have hn : n = xs.length := (Kd.R_reads' hrow.1).1
    subst hn
    obtain ⟨⟨hok, inner, hown, hr⟩, hF⟩ := hrow
    rcases hown.2 with ⟨e0, _⟩ | ⟨g', cap, cur, e0, hb, hh, hnc, hcm, hcs, htk⟩
    · cases e0
    · injection e0 with e1 e2 e3
      injection e1 with e1
      injection e1 with e1
      subst e1; subst e3
      have hzs : (Builtin.zeroCells z.cells m).toList.length = m * d.sz := by
        rw [Array.length_toList, size_zeroCells, hz]
      have hle : xs.length * d.sz + m * d.sz ≤ cur.size := by rw [hcs, ← Nat.add_mul]; exact Nat.mul_le_mul_right _ hfit
      have h1 : ∀ v ∈ (Builtin.zeroCells z.cells m).toList, v.oneCell' = true := by
        intro v hv
        have hv2 : v ∈ Builtin.zeroCells z.cells m := by simpa using hv
        unfold Builtin.zeroCells at hv2
        obtain ⟨j, hj, rfl⟩ := Array.mem_map.1 hv2
        rw [Array.all_eq_true_iff_forall_mem] at hone
        have hj2 : j < m * z.cells.size := by simpa using hj
        have hzp : 0 < z.cells.size := Nat.pos_of_ne_zero (fun e => by rw [e] at hj2; omega)
        have hlt := Nat.mod_lt j hzp
        rw [getElem!_pos z.cells (j % z.cells.size) hlt]
        exact hone _ (Array.getElem_mem hlt)
      have hst := run_storeCells_at P g (xs.length * d.sz) e (Builtin.zeroCells z.cells m).toList 0 cur W hh (by rw [hzs]; simpa using hle) h1
      try simp only [Nat.add_zero] at hst
      have hcl : (Builtin.clear_ #[t] ty #[.slice (some ⟨g, xs.length * d.sz, none⟩) m c2]).run P W = .ok (.tuple #[]) (W.setRow g (cur.toList.take (xs.length * d.sz) ++ (Builtin.zeroCells z.cells m).toList ++ cur.toList.drop (xs.length * d.sz + (Builtin.zeroCells z.cells m).toList.length)).toArray) := by
        cases m with
        | zero => omega
        | succ m' => simp [Builtin.clear_, run_underlying ht, zeroValue, typeInfo, hi, hz0, hst]
      refine ⟨_, hcl, ?_⟩
      have key : cs.set i (row d e base (.slice (some ⟨g, 0, none⟩) xs.length c) xs F) = cs := by
        have hlt := (List.getElem?_eq_some_iff.1 hc)
        rw [← hlt.2]
        exact List.set_getElem_self hlt.1
      rw [← key]
      refine hp.upd i _ _ hc (⟨rfl, rfl, rfl, by simp, fun k _ hk => setRow_other W g k _ (fun e => hk (by subst e; exact hok k (by simp [Value.ownBlock])))⟩) ⟨⟨hok, inner, ?_, ?_⟩, fun k hk => by simpa using hF k hk⟩ (fun k hk => .inl hk)
      · refine ⟨hown.1, .inr ⟨g, c, _, rfl, hb, setRow_heap W g cur _ e _ hh, hnc, hcm, ?_, ?_⟩⟩
        · simp only [List.size_toArray, List.length_append, List.length_take, List.length_drop, Array.length_toList, hzs]
          omega
        · rw [← htk]
          have e2 : (cur.toList.take (xs.length * d.sz)).length = xs.length * d.sz := by rw [List.length_take, Array.length_toList]; exact Nat.min_eq_left (Nat.le_trans (Nat.le_add_right _ _) hle)
          show List.take (xs.length * d.sz) ((cur.toList.take (xs.length * d.sz) ++ (Builtin.zeroCells z.cells m).toList) ++ _) = _
          rw [List.append_assoc, List.take_append_of_le_length (Nat.le_of_eq e2.symm), List.take_of_length_le (Nat.le_of_eq e2)]
      · refine hr.imp_ (fun p q hq => ?_)
        exact d.M_mono (fun k hk => hk.1) (d.M_move (w1 := _) (fun k hk => setRow_other W g k _ (fun e => hk.1.2 (by rw [e]; rfl))) (d.M_bound hq))
theorem sx_clear0 (hk : noB o = true) (hp : Hp w0 cs W) (i : Nat) (d : Kd α) {e base g n c : Nat} {xs : List α} {F : Nat → Prop} (hc : cs[i]? = some (row d e base (.slice (some ⟨g, 0, none⟩) n c) xs F)) {X : Operand} {t : TypeId} (ho : o.op = .call { callee := .builtin .clear, args := #[X], argTypes := #[t] }) {A2 : Option Addr} {m c2 : Nat} (hx : evl N s X = .slice A2 m c2)
    (hA : 0 < m → A2 = some ⟨g, n * d.sz, none⟩) (hfit : n + m ≤ c) (ht : P.underlying t = some (.slice e)) (z : Value) (hinfo : (P.info? e).map (fun i => (i.zero, i.size)) = some (some z, d.sz)) (hz : z.cells.size = d.sz) (hone : z.cells.all (·.oneCell') = true)
    (h : ∀ W', Hp w0 cs W' → WL P ops Q rest (fr N s) W') : WL P ops Q (o :: rest) (fr N s) W := by
  refine ⟨?_⟩
  obtain ⟨h1, h2⟩ := noB_spec hk
  obtain ⟨w1, hr1, hp1⟩ := clear_run (P := P) (ty := o.type) hp i hc (c2 := c2) hA hfit ht z hinfo hz hone
  refine wpList_plain h1 fun K hK => ?_
  unfold Oper.wp execOp
  rw [fr_eval]
  simp only [ho, resolve, invoke, builtin, Sem.run_bind, Sem.run_pure, Result.andThen_ok, List.map_toArray, List.map_cons, List.map_nil, hx, hr1]
  show K ((fr N s).put o.dst _) w1
  rw [h2]
  exact hK _ _ (h w1 hp1).out
end
end Go.Proofs.Ytbkaedmabdgdhaa.Hd
