/- Rows of the call's own: cut, appended to within their room, and cells behind them cleared. -/
import Derived.Test.YtjhbnkplpaffoaaGreatDoorMSx3
import Derived.Laws.OwnMore
namespace Go.Proofs.YtjhbnkplpaffoaaGreatDoor.Hd
open Go.RowKit Go.Proofs.YtjhbnkplpaffoaaGreatDoorW.PrintWords Go.Proofs.YtjhbnkplpaffoaaGreatDoorW.PrintLast Go.Proofs.YtjhbnkplpaffoaaGreatDoorW.PrintMore
set_option linter.unusedVariables false
set_option linter.unusedSimpArgs false
theorem Reps.take_ {α : Type} {R : α → List Value → Prop} {size : Nat} {ps : List α} {cs : List Value} (h : Reps R size ps cs) (m : Nat) (hm : m ≤ ps.length) : Reps R size (ps.take m) (cs.take (m * size)) := by
  have hl : m * size ≤ cs.length := by rw [h.1]; exact Nat.mul_le_mul_right _ hm
  refine ⟨by rw [List.length_take, List.length_take, Nat.min_eq_left hl, Nat.min_eq_left hm], fun j p hj => ?_⟩
  rw [List.getElem?_take] at hj
  split at hj
  · rename_i hjm
    have h1 := h.2 j p hj
    have e : ((cs.take (m * size)).drop (j * size)).take size = (cs.drop (j * size)).take size := by
      rw [List.drop_take, List.take_take]
      congr 1
      have h2 : (j + 1) * size ≤ m * size := Nat.mul_le_mul_right _ hjm
      rw [Nat.add_mul, Nat.one_mul] at h2
      omega
    rw [e]; exact h1
  · cases hj
theorem own_cut {W : World} {base e size g n c : Nat} {inner : List Value} (h : W.ownsRow base e size (.slice (some ⟨g, 0, none⟩) n c) n inner) (k : Nat) (hk : k ≤ n) : W.ownsRow base e size (.slice (some ⟨g, 0, none⟩) k c) k (inner.take (k * size)) := by
  have hle : k * size ≤ n * size := Nat.mul_le_mul_right _ hk
  refine ⟨by rw [List.length_take, h.1]; exact Nat.min_eq_left hle, ?_⟩
  rcases h.2 with ⟨e0, _⟩ | ⟨g', cap, cur, e0, hb, hh, hnc, hcm, hcs, htk⟩
  · cases e0
  · injection e0 with e1 e2 e3
    injection e1 with e1
    injection e1 with e1
    subst e1; subst e3
    exact .inr ⟨g, c, cur, rfl, hb, hh, by omega, hcm, hcs, by rw [← htk, List.take_take, Nat.min_eq_left hle]⟩
theorem R_cut {α : Type} {d : Kd α} {e base g n c : Nat} {W : World} {ok : Nat → Prop} {xs : List α} (h : d.R e W base ok (.slice (some ⟨g, 0, none⟩) n c) xs) (k : Nat) (hk : k ≤ n) : d.R e W base ok (.slice (some ⟨g, 0, none⟩) k c) (xs.take k) := by
  have hn : n = xs.length := (Kd.R_reads' h).1
  obtain ⟨hok, inner, hown, hr⟩ := h
  subst hn
  refine ⟨hok, inner.take (k * d.sz), ?_, Reps.take_ hr k hk⟩
  have h2 := own_cut hown k hk
  have e1 : (xs.take k).length = k := by rw [List.length_take]; omega
  rw [e1]
  exact h2
section
variable {α : Type} {P : Program} {ops : Array Oper} {Q : Exit → Act → World → Prop} {N : Nat} {s : List (Nat × Value)} {rest : List Oper} {o : Oper} {w0 W W' : World} {cs : List Chunk}
theorem Hp.cut (hp : Hp w0 cs W) (i : Nat) {d : Kd α} {e base g n c : Nat} {xs : List α} {F : Nat → Prop} (hc : cs[i]? = some (row d e base (.slice (some ⟨g, 0, none⟩) n c) xs F)) (k : Nat) (hk : k ≤ n) : Hp w0 (cs.set i (row d e base (.slice (some ⟨g, 0, none⟩) k c) (xs.take k) F)) W :=
  have hrow := hp.at_ i _ hc
  hp.upd i _ _ hc (Mv.refl _ _) ⟨R_cut hrow.1 k hk, hrow.2⟩ (fun q hq => .inl hq)
/-- Cells behind a row are cleared: the row is as it was. -/
theorem clear_run (hp : Hp w0 cs W) (i : Nat) {d : Kd α} {e base g n c : Nat} {xs : List α} {F : Nat → Prop} (hc : cs[i]? = some (row d e base (.slice (some ⟨g, 0, none⟩) n c) xs F)) {t ty : TypeId} {A2 : Option Addr} {m c2 : Nat} (hA : 0 < m → A2 = some ⟨g, n * d.sz, none⟩) (hfit : n + m ≤ c)
    (ht : P.underlying t = some (.slice e)) (z : Value) (hinfo : (P.info? e).map (fun i => (i.zero, i.size)) = some (some z, d.sz)) (hz : z.cells.size = d.sz) (hone : z.cells.all (·.oneCell') = true) :
    ∃ W', (Builtin.clear_ #[t] ty #[.slice A2 m c2]).run P W = .ok (.tuple #[]) W' ∧ Hp w0 cs W' := by
  rcases Nat.eq_zero_or_pos m with h0 | h0
  · subst h0
    refine ⟨W, ?_, hp⟩
    cases A2 <;> simp [Builtin.clear_, run_underlying ht]
  · obtain rfl := hA h0
    have hrow := hp.at_ i _ hc
    obtain ⟨i0, hi, hzz⟩ := Option.map_eq_some_iff.1 hinfo
    simp only [Prod.mk.injEq] at hzz
    obtain ⟨hz0, hz1⟩ := hzz
    have hn : n = xs.length := (Kd.R_reads' hrow.1).1
    subst hn
    obtain ⟨⟨hok, inner, hown, hr⟩, hF⟩ := hrow
    rcases hown.2 with ⟨e0, _⟩ | ⟨g', cap, cur, e0, hb, hh, hnc, hcm, hcs, htk⟩
    · cases e0
    · injection e0 with e1 e2 e3
      injection e1 with e1
      injection e1 with e1
      subst e1; subst e3
      have hzs : (Builtin.zeroCells z.cells m).toList.length = m * d.sz := by
        rw [Array.length_toList, size_zeroCells, hz]
      have hle : xs.length * d.sz + m * d.sz ≤ cur.size := by rw [hcs, ← Nat.add_mul]; exact Nat.mul_le_mul_right _ hfit
      have h1 : ∀ v ∈ (Builtin.zeroCells z.cells m).toList, v.oneCell' = true := by
        intro v hv
        have hv2 : v ∈ Builtin.zeroCells z.cells m := by simpa using hv
        unfold Builtin.zeroCells at hv2
        obtain ⟨j, hj, rfl⟩ := Array.mem_map.1 hv2
        rw [Array.all_eq_true_iff_forall_mem] at hone
        have hj2 : j < m * z.cells.size := by simpa using hj
        have hzp : 0 < z.cells.size := Nat.pos_of_ne_zero (fun e => by rw [e] at hj2; omega)
        have hlt := Nat.mod_lt j hzp
        rw [getElem!_pos z.cells (j % z.cells.size) hlt]
        exact hone _ (Array.getElem_mem hlt)
      have hst := run_storeCells_at P g (xs.length * d.sz) e (Builtin.zeroCells z.cells m).toList 0 cur W hh (by rw [hzs]; simpa using hle) h1
      try simp only [Nat.add_zero] at hst
      have hcl : (Builtin.clear_ #[t] ty #[.slice (some ⟨g, xs.length * d.sz, none⟩) m c2]).run P W = .ok (.tuple #[]) (W.setRow g (cur.toList.take (xs.length * d.sz) ++ (Builtin.zeroCells z.cells m).toList ++ cur.toList.drop (xs.length * d.sz + (Builtin.zeroCells z.cells m).toList.length)).toArray) := by
        cases m with
        | zero => omega
        | succ m' => simp [Builtin.clear_, run_underlying ht, zeroValue, typeInfo, hi, hz0, hst]
      refine ⟨_, hcl, ?_⟩
      have key : cs.set i (row d e base (.slice (some ⟨g, 0, none⟩) xs.length c) xs F) = cs := by
        have hlt := (List.getElem?_eq_some_iff.1 hc)
        rw [← hlt.2]
        exact List.set_getElem_self hlt.1
      rw [← key]
      refine hp.upd i _ _ hc (⟨rfl, rfl, rfl, by simp, fun k _ hk => setRow_other W g k _ (fun e => hk (by subst e; exact hok k (by simp [Value.ownBlock])))⟩) ⟨⟨hok, inner, ?_, ?_⟩, fun k hk => by simpa using hF k hk⟩ (fun k hk => .inl hk)
      · refine ⟨hown.1, .inr ⟨g, c, _, rfl, hb, setRow_heap W g cur _ e _ hh, hnc, hcm, ?_, ?_⟩⟩
        · simp only [List.size_toArray, List.length_append, List.length_take, List.length_drop, Array.length_toList, hzs]
          omega
        · rw [← htk]
          have e2 : (cur.toList.take (xs.length * d.sz)).length = xs.length * d.sz := by rw [List.length_take, Array.length_toList]; exact Nat.min_eq_left (Nat.le_trans (Nat.le_add_right _ _) hle)
          show List.take (xs.length * d.sz) ((cur.toList.take (xs.length * d.sz) ++ (Builtin.zeroCells z.cells m).toList) ++ _) = _
          rw [List.append_assoc, List.take_append_of_le_length (Nat.le_of_eq e2.symm), List.take_of_length_le (Nat.le_of_eq e2)]
      · refine hr.imp_ (fun p q hq => ?_)
        exact d.M_mono (fun k hk => hk.1) (d.M_move (w1 := _) (fun k hk => setRow_other W g k _ (fun e => hk.1.2 (by rw [e]; rfl))) (d.M_bound hq))
theorem sx_clear0 (hk : noB o = true) (hp : Hp w0 cs W) (i : Nat) (d : Kd α) {e base g n c : Nat} {xs : List α} {F : Nat → Prop} (hc : cs[i]? = some (row d e base (.slice (some ⟨g, 0, none⟩) n c) xs F)) {X : Operand} {t : TypeId} (ho : o.op = .call { callee := .builtin .clear, args := #[X], argTypes := #[t] }) {A2 : Option Addr} {m c2 : Nat} (hx : evl N s X = .slice A2 m c2)
    (hA : 0 < m → A2 = some ⟨g, n * d.sz, none⟩) (hfit : n + m ≤ c) (ht : P.underlying t = some (.slice e)) (z : Value) (hinfo : (P.info? e).map (fun i => (i.zero, i.size)) = some (some z, d.sz)) (hz : z.cells.size = d.sz) (hone : z.cells.all (·.oneCell') = true)
    (h : ∀ W', Hp w0 cs W' → WL P ops Q rest (fr N s) W') : WL P ops Q (o :: rest) (fr N s) W := by
  refine ⟨?_⟩
  obtain ⟨h1, h2⟩ := noB_spec hk
  obtain ⟨w1, hr1, hp1⟩ := clear_run (P := P) (ty := o.type) hp i hc (c2 := c2) hA hfit ht z hinfo hz hone
  refine wpList_plain h1 fun K hK => ?_
  unfold Oper.wp execOp
  rw [fr_eval]
  simp only [ho, resolve, invoke, builtin, Sem.run_bind, Sem.run_pure, Result.andThen_ok, List.map_toArray, List.map_cons, List.map_nil, hx, hr1]
  show K ((fr N s).put o.dst _) w1
  rw [h2]
  exact hK _ _ (h w1 hp1).out
end
end Go.Proofs.YtjhbnkplpaffoaaGreatDoor.Hd
