/- spec.RenameSpread, by hand. -/
import Derived.Test.YtojjlabkbddcjaaMLyFive
import Derived.Test.YtojjlabkbddcjaaG0
import Derived.Test.YtojjlabkbddcjaaG0
import Derived.Test.YtojjlabkbddcjaaG0
namespace Go.Proofs.Ytojjlabkbddcjaa.Hd
open Go.RowKit Go.Proofs.Ytojjlabkbddcjaa.Pure Go.Proofs.YtojjlabkbddcjaaW.PrintWords Go.Proofs.YtojjlabkbddcjaaW.PrintLast Go.Proofs.YtojjlabkbddcjaaW.PrintMore
set_option linter.unusedVariables false
set_option linter.unusedSimpArgs false
section
variable {P : Program} {N : Nat} {s : List (Nat × Value)} {o : Oper} {W : World} {A : Option Addr} {n c : Nat}
theorem sl_run (m : Nat) {t e : TypeId} {X H : Operand} {k : IntKind} {i : Int} {sz : Nat} (ho : o.op = .slice t X none (some H) none) (hX : evl N s X = .slice A n c) (hH : evl N s H = .int k i) (hi : i = (m : Int)) (hu : P.underlying t = some (.slice e)) (hz : (P.info? e).map (·.size) = some sz) (h2 : m ≤ c) :
    (execOp (evl N s) o).run P W = .ok (.value (.slice A m c)) W := by
  obtain ⟨q, hq, hs⟩ := Option.map_eq_some_iff.1 hz
  have he : P.elem t = e := by simp [Program.elem, hu]
  have hu' : P.underlying t = some (.slice (P.elem t)) := by rw [he]; exact hu
  subst hi
  have e1 : A.map (fun x => x.add (0 * sz)) = A := by cases A <;> simp [Addr.add]
  unfold execOp
  simp only [ho, hX, hH, Option.map_some, Option.map_none]
  rw [Sem.run_bind, run_sliceAt_slice (h := hu'), run_slice_h (ht := hu') (h0 := by omega) (h2 := by omega)]
  simp [sizeOf, typeInfo, he, hq, hs, sliced, Addr.add]
end
theorem l1Has_l0 (l : List Int) (hl : l.length ≤ 8388608) (x : Int) : ∀ (d i : Nat), i + d = l.length → Ev (fun k => spec_l1Has.l0 k x l (l.length : Int) (i : Int)) (decide (x ∈ l.drop i)) := by
  intro d
  induction d with
  | zero =>
    intro i hi
    refine Ev.succ ?_
    simp only [spec_l1Has.l0]
    rw [List.drop_eq_nil_of_le (by omega)]
    exact Ev.neg (by omega) (Ev.ret (by simp))
  | succ d ih =>
    intro i hi
    refine Ev.succ ?_
    simp only [spec_l1Has.l0]
    have hlt : i < l.length := by omega
    rw [w64' (m := ((i + 1 : Nat) : Int)) (by omega) (by omega) (by omega), rd_at hlt, List.drop_eq_getElem_cons hlt]
    refine Ev.pos (by omega) (Ev.pos (by omega) (Ev.pos (by omega) ?_))
    by_cases h : l[i] = x
    · exact Ev.pos h (Ev.ret (by simp [h]))
    · refine Ev.neg h ?_
      have h2 := ih (i + 1) (by omega)
      have h3 : decide (x ∈ l[i] :: l.drop (i + 1)) = decide (x ∈ l.drop (i + 1)) := by
        rw [decide_eq_decide, List.mem_cons]
        exact ⟨fun q => q.elim (fun q => absurd q.symm h) id, .inr⟩
      rw [h3]; exact h2
theorem l1Has_ev (l : List Int) (hl : l.length ≤ 8388608) (x : Int) : Ev (fun k => spec_l1Has.f k l x) (decide (x ∈ l)) := by
  have := l1Has_l0 l hl x l.length 0 (by omega)
  rw [List.drop_zero] at this
  exact this
theorem l1Has_c (l : List Int) (hl : l.length ≤ 8388608) (m : Nat) (hm : m ≤ l.length) (x : Int) (A : Option Addr) (c : Nat) (hc : l.length ≤ c) (w : World) (h : Kd.C (Kd.int .i64) w A l.length l) :
    Calls Try.prog 55 #[.slice A m c, .int .i64 x] w fun e w' => e = .returned (.bool (decide (x ∈ l.take m))) ∧ Drawn0 w w' := by
  have e1 : (l.take m).length = m := by rw [List.length_take, Nat.min_eq_left hm]
  obtain ⟨k, hk⟩ := (l1Has_ev (l.take m) (by omega) x).rounds
  have h2 := spec_l1Has.calls k A c (l.take m) x _ w (Kd.C_take h hm) (by omega) hk
  rw [e1] at h2
  exact h2
theorem l1All_c (l : List Int) (hl : l.length ≤ 8388608) (a b : Int) (A : Option Addr) (c : Nat) (hc : l.length ≤ c) (w : World) (h : Kd.C (Kd.int .i64) w A l.length l) :
    Calls Try.prog 54 #[.slice A l.length c, .int .i64 a, .int .i64 b] w fun e w' => e = .returned (.bool (l.all (inB a b))) ∧ Drawn0 w w' := by
  obtain ⟨k, hk⟩ := (l1All_ev l hl a b).rounds
  exact spec_l1All.calls k A c l a b _ w h hc hk
theorem tiOf_c (a b : Int) (w : World) : Calls Try.prog 56 #[.int .i64 a, .int .i64 b] w fun e w' => e = .returned (.agg #[.int .i64 (mn a b), .int .i64 (mx a b)]) ∧ Below w.heap.size w w' :=
  spec_tiOf.calls a b _ _ w (by
    have e1 : spec_l1Least.f a b = some (mn a b) := by unfold spec_l1Least.f mn; split <;> (congr 1; omega)
    have e2 : spec_l1Most.f a b = some (mx a b) := by unfold spec_l1Most.f mx; split <;> (congr 1; omega)
    unfold spec_tiOf.f
    rw [e1, e2]; rfl)
/-- Names that differ. -/
def namesOk (l : List Int) : Prop := l.length = 10 ∧ l.all (inB 0 9) = true ∧ ∀ i, i < 10 → rd l (i : Int) ∉ l.take i
instance (l : List Int) : Decidable (namesOk l) := inferInstanceAs (Decidable (_ ∧ _ ∧ _))
def renSwap (l : List S_Play) (ns : List Int) : Bool := decide (0 < (l.length : Int)) && decide (rd ns (rd_Play l 0).f0.f0 > rd ns (rd_Play l 0).f0.f1)
def renAt (l : List S_Play) (ns : List Int) (i : Nat) : S_Play :=
  ⟨⟨mn (rd ns (rd_Play l (i : Int)).f0.f0) (rd ns (rd_Play l (i : Int)).f0.f1), mx (rd ns (rd_Play l (i : Int)).f0.f0) (rd ns (rd_Play l (i : Int)).f0.f1)⟩, if renSwap l ns = true ∧ 0 < i ∧ (rd_Play l (i : Int)).f1 < 2 then 1 - (rd_Play l (i : Int)).f1 else (rd_Play l (i : Int)).f1⟩
def renTo (l : List S_Play) (ns : List Int) (n : Nat) : List S_Play := (List.range n).map (renAt l ns)
theorem renTo_len (l : List S_Play) (ns : List Int) (n : Nat) : (renTo l ns n).length = n := by simp [renTo]
theorem renTo_next (l : List S_Play) (ns : List Int) (n : Nat) : renTo l ns (n + 1) = renTo l ns n ++ [renAt l ns n] := by simp [renTo, List.range_succ]
theorem play_bd {l : List S_Play} {s : LySt} (hf : l.foldlM lyAdd lyS0 = some s) (hl : l.length ≤ 28) (i : Nat) (h : i < l.length) : 0 ≤ (rd_Play l (i : Int)).f0.f0 ∧ (rd_Play l (i : Int)).f0.f0 ≤ 9 ∧ 0 ≤ (rd_Play l (i : Int)).f0.f1 ∧ (rd_Play l (i : Int)).f0.f1 ≤ 9 ∧ 0 ≤ (rd_Play l (i : Int)).f1 ∧ (rd_Play l (i : Int)).f1 ≤ 100 := by
  cases hs : (l.take i).foldlM lyAdd lyS0 with
  | none => have := foldM_none lyAdd lyS0 l i hs; rw [this] at hf; cases hf
  | some s1 =>
    have hc := fold_can i h hf hs
    have hok := lyOk_fold _ _ _ _ lyOk_start hs
    have har := hok.ar
    rw [List.length_take] at har
    rw [rd_play l i h]
    unfold lyCan at hc
    simp only [Bool.and_eq_true] at hc
    obtain ⟨⟨⟨hg, -⟩, -⟩, hc⟩ := hc
    have hb := good_bd hg
    split at hc
    · simp only [beq_iff_eq] at hc
      omega
    · simp only [Bool.and_eq_true, decide_eq_true_eq] at hc
      omega
def spec_RenameSpread.f (l : List S_Play) (ns : List Int) : Option (List S_Play × Bool) :=
  if l.length ≤ 8388608 ∧ ns.length ≤ 8388608 then (match lyReadF l with | some _ => if namesOk ns then some (renTo l ns l.length, true) else some ([], false) | none => some ([], false)) else none
set_option maxRecDepth 100000 in
set_option maxHeartbeats 40000000 in
theorem spec_RenameSpread.calls (A0 : Option Addr) (c0 : Nat) (l0 : List S_Play) (AN : Option Addr) (cN : Nat) (l1 : List Int) (r0 : List S_Play) (r1 : Bool) (w : World) (hr0 : Kd.C k53 w A0 l0.length l0) (hc0 : l0.length ≤ c0) (hrN : Kd.C (Kd.int .i64) w AN l1.length l1) (hcN : l1.length ≤ cN) (h : spec_RenameSpread.f l0 l1 = some (r0, r1)) :
    Calls Try.prog 21 #[.slice A0 l0.length c0, .slice AN l1.length cN] w fun e w' => ∃ v0 : Value, e = .returned (.tuple #[v0, .bool r1]) ∧ Kd.R k53 53 w' w.heap.size (fun _ => True) v0 r0 ∧ Below w.heap.size w w' := by
  unfold spec_RenameSpread.f at h
  by_cases hsz : l0.length ≤ 8388608 ∧ l1.length ≤ 8388608
  · rw [if_pos hsz] at h
    obtain ⟨hlen, hlen1⟩ := hsz
    obtain ⟨cs, hcs⟩ : ∃ cs, cs = [old w w.heap.size] := ⟨_, rfl⟩
    have hp : Hp w cs w := by rw [hcs]; exact Hp.old_start w
    have hc2 : ∀ W, Hp w cs W → Below w.heap.size w W := fun W h => by rw [hcs] at h; exact h.since 0 _ rfl
    have hC : ∀ W, Hp w cs W → Kd.C k53 W A0 l0.length l0 := fun W h => Kd.C_below hr0 (hc2 W h)
    have hD : ∀ W, Hp w cs W → Kd.C (Kd.int .i64) W AN l1.length l1 := fun W h => Kd.C_below hrN (hc2 W h)
    clear hcs
    cases hf : lyReadF l0 with
    | none =>
      rw [hf] at h; dsimp only at h
      refine sx_enter (N := 107) (l := [.slice A0 l0.length c0, .slice AN l1.length cN]) Try.func21 rfl rfl rfl ?_
      refine wp_seq ?_
      refine sx_region ?_
      refine sx_rd 4 (.slice none 0 0) (by rfl) (by kernel_rfl) ?_
      refine sx_rd 5 (.bool false) (by rfl) (by kernel_rfl) ?_
      refine sx_nil ?_
      refine ex_then_n ?_
      refine wp_seq ?_
      refine wp_seq ?_
      refine sx_region ?_
      refine sx_rd 16 (.slice A0 l0.length c0) (by rfl) (by kernel_rfl) ?_
      refine sx_call 17 (by rfl) (by kernel_rfl) ((lyRead_none w _ cs l0 A0 c0 hlen hC hp hf).mono ?_)
      rintro _ W_1 ⟨g, rfl, hp⟩
      refine ⟨_, rfl, ?_⟩
      refine sx_rd 15 (.tuple #[.pointer (some ⟨g, 0, none⟩), .bool false]) (by rfl) (by kernel_rfl) ?_
      refine sx_rd 18 (.pointer (some ⟨g, 0, none⟩)) (by rfl) (by kernel_rfl) ?_
      refine sx_rd 19 (.bool false) (by rfl) (by kernel_rfl) ?_
      refine sx_rd 6 (.pointer (some ⟨g, 0, none⟩)) (by rfl) (by kernel_rfl) ?_
      refine sx_rd 7 (.bool false) (by rfl) (by kernel_rfl) ?_
      refine sx_nil ?_
      refine ex_then_n ?_
      refine wp_seq ?_
      refine sx_region ?_
      refine sx_rd 20 (.bool false) (by rfl) (by kernel_rfl) ?_
      refine sx_rd 21 (.bool true) (by rfl) (by kernel_rfl) ?_
      refine sx_rd 22 (.bool true) (by rfl) (by kernel_rfl) ?_
      refine sx_skip 23 (by rfl) (by rfl) (by rfl) ?_
      refine sx_skip 24 (by rfl) (by rfl) (by rfl) ?_
      refine sx_skip 25 (by rfl) (by rfl) (by rfl) ?_
      refine sx_rd 26 (.bool true) (by rfl) (by kernel_rfl) ?_
      refine sx_rd 27 (.bool true) (by rfl) (by kernel_rfl) ?_
      refine sx_skip 28 (by rfl) (by rfl) (by rfl) ?_
      refine sx_skip 29 (by rfl) (by rfl) (by rfl) ?_
      refine sx_skip 30 (by rfl) (by rfl) (by rfl) ?_
      refine sx_rd 31 (.bool true) (by rfl) (by kernel_rfl) ?_
      refine sx_nil ?_
      refine ex_then_n ?_
      refine sx_then true (by rfl) rfl ?_
      refine wp_seq ?_
      refine sx_region ?_
      refine sx_rd 4 (.slice none 0 0) (by rfl) (by kernel_rfl) ?_
      refine sx_rd 5 (.bool false) (by rfl) (by kernel_rfl) ?_
      refine sx_nil ?_
      refine ex_then_n ?_
      refine wp_ret ?_
      refine ex_then_r ?_
      refine sx_end (.tuple #[.slice none 0 0, .bool false]) (res2 4 5 (by rfl)) ?_
      have hbw := hc2 _ (hp)
      simp only [Option.some.injEq, Prod.mk.injEq] at h; obtain ⟨rfl, rfl⟩ := h
      exact ⟨_, rfl, Kd.R_nil _ _ _ _ _, hbw⟩
    | some s =>
      rw [hf] at h; dsimp only at h
      obtain ⟨hok, hl28⟩ := lyOk_read hf
      have hfold := read_fold hf
      refine sx_enter (N := 107) (l := [.slice A0 l0.length c0, .slice AN l1.length cN]) Try.func21 rfl rfl rfl ?_
      refine wp_seq ?_
      refine sx_region ?_
      refine sx_rd 4 (.slice none 0 0) (by rfl) (by kernel_rfl) ?_
      refine sx_rd 5 (.bool false) (by rfl) (by kernel_rfl) ?_
      refine sx_nil ?_
      refine ex_then_n ?_
      refine wp_seq ?_
      refine wp_seq ?_
      refine sx_region ?_
      refine sx_rd 16 (.slice A0 l0.length c0) (by rfl) (by kernel_rfl) ?_
      refine sx_call 17 (by rfl) (by kernel_rfl) ((lyRead_some w _ cs l0 A0 c0 hlen hC hp s hf).mono ?_)
      rintro _ W_1 ⟨g, A1, c1, A2, c2, F1, F2, rfl, hp⟩
      refine ⟨_, rfl, ?_⟩
      replace hp := hp.tail.tail.tail
      refine sx_rd 15 (.tuple #[.pointer (some ⟨g, 0, none⟩), .bool true]) (by rfl) (by kernel_rfl) ?_
      refine sx_rd 18 (.pointer (some ⟨g, 0, none⟩)) (by rfl) (by kernel_rfl) ?_
      refine sx_rd 19 (.bool true) (by rfl) (by kernel_rfl) ?_
      refine sx_rd 6 (.pointer (some ⟨g, 0, none⟩)) (by rfl) (by kernel_rfl) ?_
      refine sx_rd 7 (.bool true) (by rfl) (by kernel_rfl) ?_
      refine sx_nil ?_
      refine ex_then_n ?_
      refine wp_seq ?_
      rcases Bool.eq_false_or_eq_true ((l1.length : Int) != 10) with c_2 | c_2
      ·
        have c_2p := ne_of_bne_ c_2
        refine sx_region ?_
        refine sx_rd 20 (.bool true) (by rfl) (by kernel_rfl) ?_
        refine sx_rd 21 (.bool false) (by rfl) (by kernel_rfl) ?_
        refine sx_rd 22 (.bool false) (by rfl) (by kernel_rfl) ?_
        refine sx_want (by rfl) ?_
        refine sx_rd 23 (.slice AN l1.length cN) (by rfl) (by kernel_rfl) ?_
        refine sx_want (by rfl) ?_
        refine sx_rd 24 (.int .i64 (l1.length : Int)) (by rfl) (by kernel_rfl) ?_
        refine sx_want (by rfl) ?_
        refine sx_rd 25 (.bool true) (by rfl) (bv c_2 (by kernel_rfl)) ?_
        refine sx_rd 26 (.bool true) (by rfl) (by kernel_rfl) ?_
        refine sx_rd 27 (.bool true) (by rfl) (by kernel_rfl) ?_
        refine sx_skip 28 (by rfl) (by rfl) (by rfl) ?_
        refine sx_skip 29 (by rfl) (by rfl) (by rfl) ?_
        refine sx_skip 30 (by rfl) (by rfl) (by rfl) ?_
        refine sx_rd 31 (.bool true) (by rfl) (by kernel_rfl) ?_
        refine sx_nil ?_
        refine ex_then_n ?_
        refine sx_then true (by rfl) rfl ?_
        refine wp_seq ?_
        refine sx_region ?_
        refine sx_rd 4 (.slice none 0 0) (by rfl) (by kernel_rfl) ?_
        refine sx_rd 5 (.bool false) (by rfl) (by kernel_rfl) ?_
        refine sx_nil ?_
        refine ex_then_n ?_
        refine wp_ret ?_
        refine ex_then_r ?_
        refine sx_end (.tuple #[.slice none 0 0, .bool false]) (res2 4 5 (by rfl)) ?_
        have hbw := hc2 _ (hp)
        have hg : ¬ namesOk l1 := fun g => absurd g.1 (by omega)
        rw [if_neg hg] at h; simp only [Option.some.injEq, Prod.mk.injEq] at h; obtain ⟨rfl, rfl⟩ := h
        exact ⟨_, rfl, Kd.R_nil _ _ _ _ _, hbw⟩
      ·
        have c_2p := eq_of_bne_ c_2
        refine sx_region ?_
        refine sx_rd 20 (.bool true) (by rfl) (by kernel_rfl) ?_
        refine sx_rd 21 (.bool false) (by rfl) (by kernel_rfl) ?_
        refine sx_rd 22 (.bool false) (by rfl) (by kernel_rfl) ?_
        refine sx_want (by rfl) ?_
        refine sx_rd 23 (.slice AN l1.length cN) (by rfl) (by kernel_rfl) ?_
        refine sx_want (by rfl) ?_
        refine sx_rd 24 (.int .i64 (l1.length : Int)) (by rfl) (by kernel_rfl) ?_
        refine sx_want (by rfl) ?_
        refine sx_rd 25 (.bool false) (by rfl) (bv c_2 (by kernel_rfl)) ?_
        refine sx_rd 26 (.bool false) (by rfl) (by kernel_rfl) ?_
        refine sx_rd 27 (.bool false) (by rfl) (by kernel_rfl) ?_
        refine sx_want (by rfl) ?_
        refine sx_rd 28 (.slice AN l1.length cN) (by rfl) (by kernel_rfl) ?_
        refine sx_want (by rfl) ?_
        refine sx_call 29 (by rfl) (by kernel_rfl) ((l1All_c l1 (by omega) 0 9 _ _ hcN _ (hD _ hp)).mono ?_)
        rintro _ W_3 ⟨rfl, hb⟩
        refine ⟨_, rfl, ?_⟩
        replace hp := hp.below hb.below
        clear hb
        refine sx_want (by rfl) ?_
        refine sx_rd 30 (.bool (!(l1.all (inB 0 9)))) (by rfl) (by kernel_rfl) ?_
        refine sx_rd 31 (.bool (!(l1.all (inB 0 9)))) (by rfl) (by kernel_rfl) ?_
        refine sx_nil ?_
        refine ex_then_n ?_
        refine sx_cond (!(l1.all (inB 0 9))) (by rfl) (fun c_4 => ?_) (fun c_4 => ?_)
        ·
          refine wp_seq ?_
          refine sx_region ?_
          refine sx_rd 4 (.slice none 0 0) (by rfl) (by kernel_rfl) ?_
          refine sx_rd 5 (.bool false) (by rfl) (by kernel_rfl) ?_
          refine sx_nil ?_
          refine ex_then_n ?_
          refine wp_ret ?_
          refine ex_then_r ?_
          refine sx_end (.tuple #[.slice none 0 0, .bool false]) (res2 4 5 (by rfl)) ?_
          have hbw := hc2 _ (hp)
          have hg : ¬ namesOk l1 := fun g => by have q1 := g.2.1; rw [(not_eq c_4)] at q1; cases q1
          rw [if_neg hg] at h; simp only [Option.some.injEq, Prod.mk.injEq] at h; obtain ⟨rfl, rfl⟩ := h
          exact ⟨_, rfl, Kd.R_nil _ _ _ _ _, hbw⟩
        ·
          refine wp_skip ?_
          refine ex_then_n ?_
          refine wp_seq ?_
          refine wp_seq ?_
          refine sx_region ?_
          refine sx_rd 32 (.slice AN l1.length cN) (by rfl) (by kernel_rfl) ?_
          refine sx_rd 33 (.int .i64 (l1.length : Int)) (by rfl) (by kernel_rfl) ?_
          refine sx_rd 34 (.int .i64 0) (by rfl) (by kernel_rfl) ?_
          refine sx_nil ?_
          refine ex_then_n ?_
          refine wp_block ?_
          refine wp_loop_ghost (fun n a W => ∃ (r : List (Nat × Value)) (i : Nat), n = l1.length - i ∧ a = fr 107 ([(0, .slice A0 l0.length c0), (1, .slice AN l1.length cN), (32, .slice AN l1.length cN), (33, .int .i64 (l1.length : Int)), (34, .int .i64 (i : Int))] ++ r) ∧ Hp w (cs) W ∧ (i ≤ l1.length) ∧ (∀ j, j < i → rd l1 (j : Int) ∉ l1.take j)) _ ⟨_, 0, rfl, fr_front [(0, .slice A0 l0.length c0), (1, .slice AN l1.length cN), (32, .slice AN l1.length cN), (33, .int .i64 (l1.length : Int)), (34, .int .i64 0)] ⟨rfl, rfl, rfl, rfl, rfl, trivial⟩, hp, Nat.zero_le _, fun j hj => absurd hj (by omega)⟩ ?_
          rintro _ _ W_5 ⟨r, i, rfl, rfl, hp, hi, hnd⟩
          refine wp_seq ?_
          refine sx_region ?_
          refine sx_rd 35 (.bool (decide ((i : Int) < (l1.length : Int)))) (by rfl) (by kernel_rfl) ?_
          refine sx_nil ?_
          refine ex_then_n ?_
          refine wp_seq ?_
          refine sx_cond (decide ((i : Int) < (l1.length : Int))) (by rfl) (fun c_6 => ?_) (fun c_6 => ?_)
          ·
            have c_6p := of_decide_eq_true c_6
            refine wp_skip ?_
            refine ex_then_n ?_
            refine wp_seq ?_
            refine wp_block ?_
            refine wp_seq ?_
            refine sx_region ?_
            refine sx_rd 36 (.int .i64 (i : Int)) (by rfl) (by kernel_rfl) ?_
            refine sx_rd 37 (.pointer (some (adr AN (i : Int) 1))) (by rfl) (ix_run (d := (Kd.int .i64)) (hD _ hp) (t := 30) (by rfl) (by rfl) (by rfl) Try.underlying30 (by kernel_rfl) (by omega) (by omega)) ?_
            refine sx_rd 38 (.int .i64 (rd l1 (i : Int))) (by rfl) (ld1 (t := 3) (p := (.tmp 37)) (by rfl) (by rfl) (by kernel_rfl) (el_cell (d := (Kd.int .i64)) (hD _ hp) 0 (i : Int) (by omega) (by omega) (cells := [.int .i64 (rd l1 (i : Int))]) (fun cs h => h) 0 _ (by rfl))) ?_
            refine sx_rd 8 (.int .i64 (i : Int)) (by rfl) (by kernel_rfl) ?_
            refine sx_rd 9 (.int .i64 (rd l1 (i : Int))) (by rfl) (by kernel_rfl) ?_
            refine sx_nil ?_
            refine ex_then_n ?_
            refine wp_seq ?_
            refine sx_region ?_
            refine sx_rd 39 (.slice AN l1.length cN) (by rfl) (by kernel_rfl) ?_
            refine sx_rd 40 (.int .i64 (i : Int)) (by rfl) (by kernel_rfl) ?_
            refine sx_rd 41 (.slice AN i cN) (by rfl) (sl_run (sz := 1) (t := 30) i (by rfl) (by rfl) (by rfl) (by omega) Try.underlying30 (by kernel_rfl) (by omega)) ?_
            refine sx_rd 42 (.int .i64 (rd l1 (i : Int))) (by rfl) (by kernel_rfl) ?_
            refine sx_call 43 (by rfl) (by kernel_rfl) ((l1Has_c l1 (by omega) i (by omega) (rd l1 (i : Int)) _ _ hcN _ (hD _ hp)).mono ?_)
            rintro _ W_7 ⟨rfl, hb⟩
            refine ⟨_, rfl, ?_⟩
            replace hp := hp.below hb.below
            clear hb
            refine sx_nil ?_
            refine ex_then_n ?_
            refine sx_cond (decide ((rd l1 (i : Int)) ∈ l1.take i)) (by rfl) (fun c_8 => ?_) (fun c_8 => ?_)
            ·
              have c_8p := of_decide_eq_true c_8
              refine wp_seq ?_
              refine sx_region ?_
              refine sx_rd 4 (.slice none 0 0) (by rfl) (by kernel_rfl) ?_
              refine sx_rd 5 (.bool false) (by rfl) (by kernel_rfl) ?_
              refine sx_nil ?_
              refine ex_then_n ?_
              refine wp_ret ?_
              refine ex_blk_r (ex_then_r (ex_then_r (ex_blk_r (ex_then_r ?_))))
              refine sx_end (.tuple #[.slice none 0 0, .bool false]) (res2 4 5 (by rfl)) ?_
              have hbw := hc2 _ (hp)
              have hg : ¬ namesOk l1 := fun g => absurd (of_decide_eq_true c_8) (g.2.2 i (by have := g.1; omega))
              rw [if_neg hg] at h; simp only [Option.some.injEq, Prod.mk.injEq] at h; obtain ⟨rfl, rfl⟩ := h
              exact ⟨_, rfl, Kd.R_nil _ _ _ _ _, hbw⟩
            ·
              have c_8p := of_decide_eq_false c_8
              refine wp_skip ?_
              refine ex_blk_n ?_
              refine ex_then_n ?_
              refine sx_region ?_
              refine sx_rd 44 (.int .i64 ((i : Int) + 1)) (by rfl) (wr_ok (by omega) (by kernel_rfl)) ?_
              refine sx_rd 34 (.int .i64 ((i : Int) + 1)) (by rfl) (by kernel_rfl) ?_
              refine sx_nil ?_
              refine ex_then_n ?_
              have hnn : rd l1 (i : Int) ∉ l1.take i := of_decide_eq_false c_8
              exact ⟨_, (show l1.length - (i + 1) < l1.length - i by omega), _, i + 1, rfl, fr_front [(0, .slice A0 l0.length c0), (1, .slice AN l1.length cN), (32, .slice AN l1.length cN), (33, .int .i64 (l1.length : Int)), (34, .int .i64 ((i + 1 : Nat) : Int))] ⟨rfl, rfl, rfl, rfl, rfl, trivial⟩, hp, (by omega), fun j hj => if q : j = i then (by rw [q]; exact hnn) else hnd j (by omega)⟩
          ·
            have c_6p := of_decide_eq_false c_6
            refine wp_exit ?_
            refine ex_then_e (ex_then_e (ex_blk_here ?_))
            refine ex_then_n ?_
            refine wp_seq ?_
            rcases Bool.eq_false_or_eq_true (decide ((l0.length : Int) > 0)) with c_9 | c_9
            ·
              have c_9p := of_decide_eq_true c_9
              have hb00 := play_bd hfold hl28 0 (by omega)
              rw [show ((0 : Nat) : Int) = 0 from rfl] at hb00
              refine sx_draw [0, 1, 2, 3] [(true, 4), (true, 5), (true, 6), (true, 7), (true, 8), (true, 9), (true, 10), (true, 11), (true, 12), (true, 13), (true, 14), (true, 15), (true, 16), (true, 17), (true, 18), (true, 19), (true, 20), (true, 21), (true, 22)] 23 (C := Hp w (cs)) (by kernel_rfl) (by kernel_rfl) (fun d _ _ _ _ h => by cases d <;> exact h) (fun W h => h.drew) hp ?_
              refine preI_read rfl ?_
              refine sxq_val 45 (.slice A0 l0.length c0) (by rfl) (fun W _ => (by kernel_rfl)) ?_
              refine sxq_nil ?_
              refine preI_read rfl ?_
              refine sxq_val 46 (.int .i64 (l0.length : Int)) (by rfl) (fun W _ => (by kernel_rfl)) ?_
              refine sxq_nil ?_
              refine preI_read rfl ?_
              refine sxq_val 47 (.bool true) (by rfl) (fun W _ => (bv c_9 (by kernel_rfl))) ?_
              refine sxq_nil ?_
              refine preI_read rfl ?_
              refine sxq_val 48 (.bool true) (by rfl) (fun W _ => (by kernel_rfl)) ?_
              refine sxq_nil ?_
              refine preI_nil ?_
              intro W_10 hp
              refine stepsI_read rfl ?_
              refine sxq_want (by rfl) ?_
              refine sxq_val 49 (.slice AN l1.length cN) (by rfl) (fun W hp => (by kernel_rfl)) ?_
              refine sxq_nil ?_
              refine stepsI_read rfl ?_
              refine sxq_want (by rfl) ?_
              refine sxq_val 50 (.slice A0 l0.length c0) (by rfl) (fun W hp => (by kernel_rfl)) ?_
              refine sxq_nil ?_
              refine stepsI_read rfl ?_
              refine sxq_want (by rfl) ?_
              refine sxq_val 51 (.pointer (some (adr A0 0 3))) (by rfl) (fun W hp => (ix_run (d := k53) (hC _ hp) (t := 26) (by rfl) (by rfl) (by rfl) Try.underlying26 (by kernel_rfl) (by omega) (by omega))) ?_
              refine sxq_nil ?_
              refine stepsI_read rfl ?_
              refine sxq_want (by rfl) ?_
              refine sxq_val 52 (.pointer (some (adr A0 0 3))) (by rfl) (fun W hp => (by kernel_rfl)) ?_
              refine sxq_nil ?_
              refine stepsI_read rfl ?_
              refine sxq_want (by rfl) ?_
              refine sxq_val 53 (.pointer (some (adr A0 0 3))) (by rfl) (fun W hp => (by kernel_rfl)) ?_
              refine sxq_nil ?_
              refine stepsI_read rfl ?_
              refine sxq_want (by rfl) ?_
              refine sxq_val 54 (.int .i64 ((rd_Play l0 0).f0.f0)) (by rfl) (fun W hp => (ld1 (t := 3) (p := (.tmp 53)) (by rfl) (by rfl) (by kernel_rfl) (el_cell (d := k53) (hC _ hp) z53 0 (by omega) (by omega) (cells := [.int .i64 ((rd_Play l0 0).f0.f0), .int .i64 ((rd_Play l0 0).f0.f1), .int .i64 ((rd_Play l0 0).f1)]) (fun cs h => k53_open h) 0 _ (by rfl)))) ?_
              refine sxq_nil ?_
              refine stepsI_read rfl ?_
              refine sxq_want (by rfl) ?_
              refine sxq_val 55 (.pointer (some (adr AN ((rd_Play l0 0).f0.f0) 1))) (by rfl) (fun W hp => (ix_run (d := (Kd.int .i64)) (hD _ hp) (t := 30) (by rfl) (by rfl) (by rfl) Try.underlying30 (by kernel_rfl) (by omega) (by omega))) ?_
              refine sxq_nil ?_
              refine stepsI_read rfl ?_
              refine sxq_want (by rfl) ?_
              refine sxq_val 56 (.int .i64 (rd l1 ((rd_Play l0 0).f0.f0))) (by rfl) (fun W hp => (ld1 (t := 3) (p := (.tmp 55)) (by rfl) (by rfl) (by kernel_rfl) (el_cell (d := (Kd.int .i64)) (hD _ hp) 0 ((rd_Play l0 0).f0.f0) (by omega) (by omega) (cells := [.int .i64 (rd l1 ((rd_Play l0 0).f0.f0))]) (fun cs h => h) 0 _ (by rfl)))) ?_
              refine sxq_nil ?_
              refine stepsI_read rfl ?_
              refine sxq_want (by rfl) ?_
              refine sxq_val 57 (.slice AN l1.length cN) (by rfl) (fun W hp => (by kernel_rfl)) ?_
              refine sxq_nil ?_
              refine stepsI_read rfl ?_
              refine sxq_want (by rfl) ?_
              refine sxq_val 58 (.slice A0 l0.length c0) (by rfl) (fun W hp => (by kernel_rfl)) ?_
              refine sxq_nil ?_
              refine stepsI_read rfl ?_
              refine sxq_want (by rfl) ?_
              refine sxq_val 59 (.pointer (some (adr A0 0 3))) (by rfl) (fun W hp => (ix_run (d := k53) (hC _ hp) (t := 26) (by rfl) (by rfl) (by rfl) Try.underlying26 (by kernel_rfl) (by omega) (by omega))) ?_
              refine sxq_nil ?_
              refine stepsI_read rfl ?_
              refine sxq_want (by rfl) ?_
              refine sxq_val 60 (.pointer (some (adr A0 0 3))) (by rfl) (fun W hp => (by kernel_rfl)) ?_
              refine sxq_nil ?_
              refine stepsI_read rfl ?_
              refine sxq_want (by rfl) ?_
              refine sxq_val 61 (.pointer (some ((adr A0 0 3).add 1))) (by rfl) (fun W hp => (by kernel_rfl)) ?_
              refine sxq_nil ?_
              refine stepsI_read rfl ?_
              refine sxq_want (by rfl) ?_
              refine sxq_val 62 (.int .i64 ((rd_Play l0 0).f0.f1)) (by rfl) (fun W hp => (ld1 (t := 3) (p := (.tmp 61)) (by rfl) (by rfl) (by kernel_rfl) (el_cell (d := k53) (hC _ hp) z53 0 (by omega) (by omega) (cells := [.int .i64 ((rd_Play l0 0).f0.f0), .int .i64 ((rd_Play l0 0).f0.f1), .int .i64 ((rd_Play l0 0).f1)]) (fun cs h => k53_open h) 1 _ (by rfl)))) ?_
              refine sxq_nil ?_
              refine stepsI_read rfl ?_
              refine sxq_want (by rfl) ?_
              refine sxq_val 63 (.pointer (some (adr AN ((rd_Play l0 0).f0.f1) 1))) (by rfl) (fun W hp => (ix_run (d := (Kd.int .i64)) (hD _ hp) (t := 30) (by rfl) (by rfl) (by rfl) Try.underlying30 (by kernel_rfl) (by omega) (by omega))) ?_
              refine sxq_nil ?_
              refine stepsI_read rfl ?_
              refine sxq_want (by rfl) ?_
              refine sxq_val 64 (.int .i64 (rd l1 ((rd_Play l0 0).f0.f1))) (by rfl) (fun W hp => (ld1 (t := 3) (p := (.tmp 63)) (by rfl) (by rfl) (by kernel_rfl) (el_cell (d := (Kd.int .i64)) (hD _ hp) 0 ((rd_Play l0 0).f0.f1) (by omega) (by omega) (cells := [.int .i64 (rd l1 ((rd_Play l0 0).f0.f1))]) (fun cs h => h) 0 _ (by rfl)))) ?_
              refine sxq_nil ?_
              refine stepsI_read rfl ?_
              refine sxq_want (by rfl) ?_
              refine sxq_val 65 (.bool (decide ((rd l1 ((rd_Play l0 0).f0.f0)) > (rd l1 ((rd_Play l0 0).f0.f1))))) (by rfl) (fun W hp => (by kernel_rfl)) ?_
              refine sxq_nil ?_
              refine stepsI_read rfl ?_
              refine sxq_val 66 (.bool (decide ((rd l1 ((rd_Play l0 0).f0.f0)) > (rd l1 ((rd_Play l0 0).f0.f1))))) (by rfl) (fun W hp => (by kernel_rfl)) ?_
              refine sxq_nil ?_
              refine stepsI_read rfl ?_
              refine sxq_val 10 (.bool (decide ((rd l1 ((rd_Play l0 0).f0.f0)) > (rd l1 ((rd_Play l0 0).f0.f1))))) (by rfl) (fun W hp => (by kernel_rfl)) ?_
              refine sxq_nil ?_
              refine stepsI_nil ?_
              refine sx_nil ?_
              refine ex_then_n ?_
              refine wp_seq ?_
              refine sx_region ?_
              refine sx_rd 11 (.slice none 0 0) (by rfl) (by kernel_rfl) ?_
              refine sx_nil ?_
              refine ex_then_n ?_
              refine wp_seq ?_
              refine wp_seq ?_
              refine sx_region ?_
              refine sx_rd 67 (.slice A0 l0.length c0) (by rfl) (by kernel_rfl) ?_
              refine sx_rd 68 (.int .i64 (l0.length : Int)) (by rfl) (by kernel_rfl) ?_
              refine sx_rd 69 (.int .i64 0) (by rfl) (by kernel_rfl) ?_
              refine sx_nil ?_
              refine ex_then_n ?_
              refine wp_block ?_
              have hgood : namesOk l1 := ⟨by omega, (by have q1 := (not_eq c_4); simpa using q1), fun j hj => hnd j (by omega)⟩
              replace hp := hp.nilrow k53 53 w.heap.size
              have hsw : renSwap l0 l1 = (decide ((rd l1 ((rd_Play l0 0).f0.f0)) > (rd l1 ((rd_Play l0 0).f0.f1)))) := by show (decide ((l0.length : Int) > 0) && _) = _; rw [c_9]; rfl
              refine wp_loop_ghost (fun n a W => ∃ (r : List (Nat × Value)) (q : Nat) (A2 : Option Addr) (n2 c2 : Nat) (F2 : Nat → Prop), n = l0.length - q ∧ a = fr 107 ([(1, .slice AN l1.length cN), (10, .bool (decide ((rd l1 ((rd_Play l0 0).f0.f0)) > (rd l1 ((rd_Play l0 0).f0.f1))))), (11, .slice A2 n2 c2), (67, .slice A0 l0.length c0), (68, .int .i64 (l0.length : Int)), (69, .int .i64 (q : Int))] ++ r) ∧ Hp w (row k53 53 w.heap.size (.slice A2 n2 c2) (renTo l0 l1 q) F2 :: cs) W ∧ (q ≤ l0.length)) _ ⟨_, 0, _, _, _, _, rfl, fr_front [(1, .slice AN l1.length cN), (10, .bool (decide ((rd l1 ((rd_Play l0 0).f0.f0)) > (rd l1 ((rd_Play l0 0).f0.f1))))), (11, .slice none 0 0), (67, .slice A0 l0.length c0), (68, .int .i64 (l0.length : Int)), (69, .int .i64 0)] ⟨rfl, rfl, rfl, rfl, rfl, rfl, trivial⟩, (hp.take [0] 1 (by decide) (by simp)), Nat.zero_le _⟩ ?_
              rintro _ _ W_11 ⟨r, q, A2, n2, c2, F2, rfl, rfl, hp, hq⟩
              have hrl := renTo_len l0 l1 q
              refine wp_seq ?_
              refine sx_region ?_
              refine sx_rd 70 (.bool (decide ((q : Int) < (l0.length : Int)))) (by rfl) (by kernel_rfl) ?_
              refine sx_nil ?_
              refine ex_then_n ?_
              refine wp_seq ?_
              refine sx_cond (decide ((q : Int) < (l0.length : Int))) (by rfl) (fun c_12 => ?_) (fun c_12 => ?_)
              ·
                have c_12p := of_decide_eq_true c_12
                have hpq := play_bd hfold hl28 q (by omega)
                refine wp_skip ?_
                refine ex_then_n ?_
                refine wp_seq ?_
                refine wp_block ?_
                refine wp_seq ?_
                refine sx_region ?_
                refine sx_rd 71 (.int .i64 (q : Int)) (by rfl) (by kernel_rfl) ?_
                refine sx_rd 72 (.pointer (some (adr A0 (q : Int) 3))) (by rfl) (ix_run (d := k53) (hC _ hp.tail) (t := 26) (by rfl) (by rfl) (by rfl) Try.underlying26 (by kernel_rfl) (by omega) (by omega)) ?_
                refine sx_rd 73 (.agg #[.int .i64 ((rd_Play l0 (q : Int)).f0.f0), .int .i64 ((rd_Play l0 (q : Int)).f0.f1), .int .i64 ((rd_Play l0 (q : Int)).f1)]) (by rfl) (el_run (d := k53) (hC _ hp.tail) z53 (q : Int) (by omega) (by omega) (cells := [.int .i64 ((rd_Play l0 (q : Int)).f0.f0), .int .i64 ((rd_Play l0 (q : Int)).f0.f1), .int .i64 ((rd_Play l0 (q : Int)).f1)]) (fun cs h => k53_open h) 0 [.int .i64 ((rd_Play l0 (q : Int)).f0.f0), .int .i64 ((rd_Play l0 (q : Int)).f0.f1), .int .i64 ((rd_Play l0 (q : Int)).f1)] (by rfl) (t := 53) (p := (.tmp 72)) (by rfl) (by rfl) (by kernel_rfl) (by kernel_rfl)) ?_
                refine sx_box 13 hp #[.int .i64 0, .int .i64 0, .int .i64 0] 53 (by rfl) (fun W => by kernel_rfl) ?_
                intro g_13 W_14 hp
                refine sx_rd 12 (.int .i64 (q : Int)) (by rfl) (by kernel_rfl) ?_
                refine sx_store (t := 53) (p := (.tmp 13)) (x := (.tmp 73)) (by rfl) (by rfl) 0 (by rfl) 0 [.int .i64 ((rd_Play l0 (q : Int)).f0.f0), .int .i64 ((rd_Play l0 (q : Int)).f0.f1), .int .i64 ((rd_Play l0 (q : Int)).f1)] (by rfl) (by rfl) (by kernel_rfl) (by simp [Value.oneCell']) (by show 3 ≤ 3; omega) #[.int .i64 ((rd_Play l0 (q : Int)).f0.f0), .int .i64 ((rd_Play l0 (q : Int)).f0.f1), .int .i64 ((rd_Play l0 (q : Int)).f1)] (by rfl) hp ?_
                intro W_15 hp; simp only [List.set_cons_succ, List.set_cons_zero] at hp
                refine sx_nil ?_
                refine ex_then_n ?_
                refine wp_seq ?_
                refine sx_region ?_
                refine sx_rd 74 (.pointer (some ⟨g_13, 2, none⟩)) (by rfl) (by kernel_rfl) ?_
                refine sx_rd 75 (.int .i64 ((rd_Play l0 (q : Int)).f1)) (by rfl) (ld1 (t := 3) (p := (.tmp 74)) (by rfl) (by rfl) (by kernel_rfl) (hp.cell 0 (by rfl) 2 _ (by rfl))) ?_
                refine sx_rd 14 (.int .i64 ((rd_Play l0 (q : Int)).f1)) (by rfl) (by kernel_rfl) ?_
                refine sx_nil ?_
                refine ex_then_n ?_
                refine wp_seq ?_
                refine wp_seq ?_
                rcases Bool.eq_false_or_eq_true (decide ((rd l1 ((rd_Play l0 0).f0.f0)) > (rd l1 ((rd_Play l0 0).f0.f1)))) with c_16 | c_16
                ·
                  have c_16p := of_decide_eq_true c_16
                  rcases Bool.eq_false_or_eq_true (decide ((q : Int) > 0)) with c_17 | c_17
                  ·
                    have c_17p := of_decide_eq_true c_17
                    refine sx_region ?_
                    refine sx_rd 76 (.bool true) (by rfl) (bv c_16 (by kernel_rfl)) ?_
                    refine sx_rd 77 (.bool true) (by rfl) (by kernel_rfl) ?_
                    refine sx_want (by rfl) ?_
                    refine sx_rd 78 (.int .i64 (q : Int)) (by rfl) (by kernel_rfl) ?_
                    refine sx_want (by rfl) ?_
                    refine sx_rd 79 (.bool true) (by rfl) (bv c_17 (by kernel_rfl)) ?_
                    refine sx_rd 80 (.bool true) (by rfl) (by kernel_rfl) ?_
                    refine sx_rd 81 (.bool true) (by rfl) (by kernel_rfl) ?_
                    refine sx_want (by rfl) ?_
                    refine sx_rd 82 (.int .i64 ((rd_Play l0 (q : Int)).f1)) (by rfl) (by kernel_rfl) ?_
                    refine sx_want (by rfl) ?_
                    refine sx_rd 83 (.bool (decide ((rd_Play l0 (q : Int)).f1 < 2))) (by rfl) (by kernel_rfl) ?_
                    refine sx_rd 84 (.bool (decide ((rd_Play l0 (q : Int)).f1 < 2))) (by rfl) (by kernel_rfl) ?_
                    refine sx_nil ?_
                    refine ex_then_n ?_
                    refine sx_cond (decide ((rd_Play l0 (q : Int)).f1 < 2)) (by rfl) (fun c_18 => ?_) (fun c_18 => ?_)
                    ·
                      have c_18p := of_decide_eq_true c_18
                      refine sx_region ?_
                      refine sx_rd 85 (.int .i64 ((rd_Play l0 (q : Int)).f1)) (by rfl) (by kernel_rfl) ?_
                      refine sx_rd 86 (.int .i64 (1 - (rd_Play l0 (q : Int)).f1)) (by rfl) (wr_ok (by omega) (by kernel_rfl)) ?_
                      refine sx_rd 14 (.int .i64 (1 - (rd_Play l0 (q : Int)).f1)) (by rfl) (by kernel_rfl) ?_
                      refine sx_nil ?_
                      refine ex_then_n ?_
                      refine sx_draw [0, 1, 2, 3, 7, 8, 9, 14] [(true, 4), (true, 5), (true, 6), (true, 10), (true, 11), (true, 12), (false, 13), (true, 15), (false, 16)] 17 (C := Hp w (blk g_13 #[.int .i64 ((rd_Play l0 (q : Int)).f0.f0), .int .i64 ((rd_Play l0 (q : Int)).f0.f1), .int .i64 ((rd_Play l0 (q : Int)).f1)] 53 :: row k53 53 w.heap.size (.slice A2 n2 c2) (renTo l0 l1 q) F2 :: cs)) (by kernel_rfl) (by kernel_rfl) (fun d _ _ _ _ h => by cases d <;> exact h) (fun W h => h.drew) hp ?_
                      refine preI_read rfl ?_
                      refine sxq_val 87 (.slice A2 n2 c2) (by rfl) (fun W _ => (by kernel_rfl)) ?_
                      refine sxq_nil ?_
                      refine preI_read rfl ?_
                      refine sxq_val 88 (.slice AN l1.length cN) (by rfl) (fun W _ => (by kernel_rfl)) ?_
                      refine sxq_nil ?_
                      refine preI_read rfl ?_
                      refine sxq_val 89 (.pointer (some ⟨g_13, 0, none⟩)) (by rfl) (fun W _ => (by kernel_rfl)) ?_
                      refine sxq_nil ?_
                      refine preI_read rfl ?_
                      refine sxq_val 90 (.pointer (some ⟨g_13, 0, none⟩)) (by rfl) (fun W _ => (by kernel_rfl)) ?_
                      refine sxq_nil ?_
                      refine preI_read rfl ?_
                      refine sxq_val 94 (.slice AN l1.length cN) (by rfl) (fun W _ => (by kernel_rfl)) ?_
                      refine sxq_nil ?_
                      refine preI_read rfl ?_
                      refine sxq_val 95 (.pointer (some ⟨g_13, 0, none⟩)) (by rfl) (fun W _ => (by kernel_rfl)) ?_
                      refine sxq_nil ?_
                      refine preI_read rfl ?_
                      refine sxq_val 96 (.pointer (some ⟨g_13, 1, none⟩)) (by rfl) (fun W _ => (by kernel_rfl)) ?_
                      refine sxq_nil ?_
                      refine preI_read rfl ?_
                      refine sxq_val 101 (.int .i64 (1 - (rd_Play l0 (q : Int)).f1)) (by rfl) (fun W _ => (by kernel_rfl)) ?_
                      refine sxq_nil ?_
                      refine preI_nil ?_
                      intro W_19 hp
                      refine stepsI_read rfl ?_
                      refine sxq_val 91 (.int .i64 ((rd_Play l0 (q : Int)).f0.f0)) (by rfl) (fun W hp => (ld1 (t := 3) (p := (.tmp 90)) (by rfl) (by rfl) (by kernel_rfl) (hp.cell 0 (by rfl) 0 _ (by rfl)))) ?_
                      refine sxq_nil ?_
                      refine stepsI_read rfl ?_
                      refine sxq_val 92 (.pointer (some (adr AN ((rd_Play l0 (q : Int)).f0.f0) 1))) (by rfl) (fun W hp => (ix_run (d := (Kd.int .i64)) (hD _ hp.tail.tail) (t := 30) (by rfl) (by rfl) (by rfl) Try.underlying30 (by kernel_rfl) (by omega) (by omega))) ?_
                      refine sxq_nil ?_
                      refine stepsI_read rfl ?_
                      refine sxq_val 93 (.int .i64 (rd l1 ((rd_Play l0 (q : Int)).f0.f0))) (by rfl) (fun W hp => (ld1 (t := 3) (p := (.tmp 92)) (by rfl) (by rfl) (by kernel_rfl) (el_cell (d := (Kd.int .i64)) (hD _ hp.tail.tail) 0 ((rd_Play l0 (q : Int)).f0.f0) (by omega) (by omega) (cells := [.int .i64 (rd l1 ((rd_Play l0 (q : Int)).f0.f0))]) (fun cs h => h) 0 _ (by rfl)))) ?_
                      refine sxq_nil ?_
                      refine stepsI_read rfl ?_
                      refine sxq_val 97 (.int .i64 ((rd_Play l0 (q : Int)).f0.f1)) (by rfl) (fun W hp => (ld1 (t := 3) (p := (.tmp 96)) (by rfl) (by rfl) (by kernel_rfl) (hp.cell 0 (by rfl) 1 _ (by rfl)))) ?_
                      refine sxq_nil ?_
                      refine stepsI_read rfl ?_
                      refine sxq_val 98 (.pointer (some (adr AN ((rd_Play l0 (q : Int)).f0.f1) 1))) (by rfl) (fun W hp => (ix_run (d := (Kd.int .i64)) (hD _ hp.tail.tail) (t := 30) (by rfl) (by rfl) (by rfl) Try.underlying30 (by kernel_rfl) (by omega) (by omega))) ?_
                      refine sxq_nil ?_
                      refine stepsI_read rfl ?_
                      refine sxq_val 99 (.int .i64 (rd l1 ((rd_Play l0 (q : Int)).f0.f1))) (by rfl) (fun W hp => (ld1 (t := 3) (p := (.tmp 98)) (by rfl) (by rfl) (by kernel_rfl) (el_cell (d := (Kd.int .i64)) (hD _ hp.tail.tail) 0 ((rd_Play l0 (q : Int)).f0.f1) (by omega) (by omega) (cells := [.int .i64 (rd l1 ((rd_Play l0 (q : Int)).f0.f1))]) (fun cs h => h) 0 _ (by rfl)))) ?_
                      refine sxq_nil ?_
                      refine stepsI_event rfl ?_
                      refine sx_call 100 (by rfl) (by kernel_rfl) ((tiOf_c (rd l1 ((rd_Play l0 (q : Int)).f0.f0)) (rd l1 ((rd_Play l0 (q : Int)).f0.f1)) _).mono ?_)
                      rintro _ W_20 ⟨rfl, hb⟩
                      refine ⟨_, rfl, ?_⟩
                      replace hp := hp.below hb
                      clear hb
                      refine step_fin hp ?_
                      refine stepsI_read rfl ?_
                      refine sxq_val 102 (.agg #[.int .i64 (mn (rd l1 ((rd_Play l0 (q : Int)).f0.f0)) (rd l1 ((rd_Play l0 (q : Int)).f0.f1))), .int .i64 (mx (rd l1 ((rd_Play l0 (q : Int)).f0.f0)) (rd l1 ((rd_Play l0 (q : Int)).f0.f1))), .int .i64 (1 - (rd_Play l0 (q : Int)).f1)]) (by rfl) (fun W hp => (by kernel_rfl)) ?_
                      refine sxq_nil ?_
                      refine stepsI_event rfl ?_
                      refine sx_lit 103 (by rfl) k53 w.heap.size 53 ([(⟨⟨(mn (rd l1 ((rd_Play l0 (q : Int)).f0.f0)) (rd l1 ((rd_Play l0 (q : Int)).f0.f1))), (mx (rd l1 ((rd_Play l0 (q : Int)).f0.f0)) (rd l1 ((rd_Play l0 (q : Int)).f0.f1)))⟩, (1 - (rd_Play l0 (q : Int)).f1)⟩ : S_Play)]) [.int .i64 (mn (rd l1 ((rd_Play l0 (q : Int)).f0.f0)) (rd l1 ((rd_Play l0 (q : Int)).f0.f1))), .int .i64 (mx (rd l1 ((rd_Play l0 (q : Int)).f0.f0)) (rd l1 ((rd_Play l0 (q : Int)).f0.f1))), .int .i64 (1 - (rd_Play l0 (q : Int)).f1)] (fun W => by kernel_rfl) (play_reps _ _ _) (by simp) hp.size hp ?_
                      intro g_21 F_22 W_23 hp hz; clear hz
                      refine step_fin hp.tail ?_
                      refine stepsI_nil ?_
                      refine tail_of [17, 18] (by rfl) ?_
                      refine tailI_op rfl ?_
                      refine sx_append 104 (by rfl) k53 2 (by rfl) (.agg #[.int .i64 0, .int .i64 0, .int .i64 0]) 24 (by rfl) Try.underlying26 (by kernel_rfl) rfl (by decide) (by decide) ([(⟨⟨(mn (rd l1 ((rd_Play l0 (q : Int)).f0.f0)) (rd l1 ((rd_Play l0 (q : Int)).f0.f1))), (mx (rd l1 ((rd_Play l0 (q : Int)).f0.f0)) (rd l1 ((rd_Play l0 (q : Int)).f0.f1)))⟩, (1 - (rd_Play l0 (q : Int)).f1)⟩ : S_Play)]) (by rfl) (by rfl) (row_C (hp.at_ 0 _ (by rfl))) play_kp hp.size (by simp; omega) hp ?_
                      intro A_24 c_25 F_26 W_27 hp hz; clear hz; simp only [List.set_cons_succ, List.set_cons_zero] at hp
                      refine tailI_next ?_
                      refine tailI_op rfl ?_
                      refine sx_rd 11 (.slice A_24 (((renTo l0 l1 q) ++ [(⟨⟨(mn (rd l1 ((rd_Play l0 (q : Int)).f0.f0)) (rd l1 ((rd_Play l0 (q : Int)).f0.f1))), (mx (rd l1 ((rd_Play l0 (q : Int)).f0.f0)) (rd l1 ((rd_Play l0 (q : Int)).f0.f1)))⟩, (1 - (rd_Play l0 (q : Int)).f1)⟩ : S_Play)]).length) c_25) (by rfl) (by kernel_rfl) ?_
                      refine tailI_next ?_
                      refine tailI_nil ?_
                      refine ex_blk_n ?_
                      refine ex_then_n ?_
                      refine sx_region ?_
                      refine sx_rd 105 (.int .i64 ((q : Int) + 1)) (by rfl) (wr_ok (by omega) (by kernel_rfl)) ?_
                      refine sx_rd 69 (.int .i64 ((q : Int) + 1)) (by rfl) (by kernel_rfl) ?_
                      refine sx_nil ?_
                      refine ex_then_n ?_
                      have hnx : ((renTo l0 l1 q) ++ [(⟨⟨(mn (rd l1 ((rd_Play l0 (q : Int)).f0.f0)) (rd l1 ((rd_Play l0 (q : Int)).f0.f1))), (mx (rd l1 ((rd_Play l0 (q : Int)).f0.f0)) (rd l1 ((rd_Play l0 (q : Int)).f0.f1)))⟩, (1 - (rd_Play l0 (q : Int)).f1)⟩ : S_Play)]) = renTo l0 l1 (q + 1) := by rw [renTo_next]; congr 2; simp only [renAt]; congr 1; first | (simp [hsw, c_12, c_16, c_17, c_18]; done) | (simp [hsw, c_12, c_16, c_17, c_18]; omega) | (simp only [hsw, c_12, c_16, c_17, c_18, true_and]; split <;> omega)
                      rw [hnx] at hp
                      exact ⟨_, (show l0.length - (q + 1) < l0.length - q by omega), _, q + 1, _, _, _, _, rfl, fr_front [(1, .slice AN l1.length cN), (10, .bool (decide ((rd l1 ((rd_Play l0 0).f0.f0)) > (rd l1 ((rd_Play l0 0).f0.f1))))), (11, .slice A_24 ((renTo l0 l1 (q + 1)).length) c_25), (67, .slice A0 l0.length c0), (68, .int .i64 (l0.length : Int)), (69, .int .i64 ((q + 1 : Nat) : Int))] ⟨rfl, rfl, congrArg (fun z : List S_Play => Value.slice A_24 z.length c_25) hnx, rfl, rfl, rfl, trivial⟩, (hp.take [2] 3 (by decide) (by simp)), (by omega)⟩
                    ·
                      have c_18p := of_decide_eq_false c_18
                      refine wp_skip ?_
                      refine ex_then_n ?_
                      refine sx_draw [0, 1, 2, 3, 7, 8, 9, 14] [(true, 4), (true, 5), (true, 6), (true, 10), (true, 11), (true, 12), (false, 13), (true, 15), (false, 16)] 17 (C := Hp w (blk g_13 #[.int .i64 ((rd_Play l0 (q : Int)).f0.f0), .int .i64 ((rd_Play l0 (q : Int)).f0.f1), .int .i64 ((rd_Play l0 (q : Int)).f1)] 53 :: row k53 53 w.heap.size (.slice A2 n2 c2) (renTo l0 l1 q) F2 :: cs)) (by kernel_rfl) (by kernel_rfl) (fun d _ _ _ _ h => by cases d <;> exact h) (fun W h => h.drew) hp ?_
                      refine preI_read rfl ?_
                      refine sxq_val 87 (.slice A2 n2 c2) (by rfl) (fun W _ => (by kernel_rfl)) ?_
                      refine sxq_nil ?_
                      refine preI_read rfl ?_
                      refine sxq_val 88 (.slice AN l1.length cN) (by rfl) (fun W _ => (by kernel_rfl)) ?_
                      refine sxq_nil ?_
                      refine preI_read rfl ?_
                      refine sxq_val 89 (.pointer (some ⟨g_13, 0, none⟩)) (by rfl) (fun W _ => (by kernel_rfl)) ?_
                      refine sxq_nil ?_
                      refine preI_read rfl ?_
                      refine sxq_val 90 (.pointer (some ⟨g_13, 0, none⟩)) (by rfl) (fun W _ => (by kernel_rfl)) ?_
                      refine sxq_nil ?_
                      refine preI_read rfl ?_
                      refine sxq_val 94 (.slice AN l1.length cN) (by rfl) (fun W _ => (by kernel_rfl)) ?_
                      refine sxq_nil ?_
                      refine preI_read rfl ?_
                      refine sxq_val 95 (.pointer (some ⟨g_13, 0, none⟩)) (by rfl) (fun W _ => (by kernel_rfl)) ?_
                      refine sxq_nil ?_
                      refine preI_read rfl ?_
                      refine sxq_val 96 (.pointer (some ⟨g_13, 1, none⟩)) (by rfl) (fun W _ => (by kernel_rfl)) ?_
                      refine sxq_nil ?_
                      refine preI_read rfl ?_
                      refine sxq_val 101 (.int .i64 ((rd_Play l0 (q : Int)).f1)) (by rfl) (fun W _ => (by kernel_rfl)) ?_
                      refine sxq_nil ?_
                      refine preI_nil ?_
                      intro W_28 hp
                      refine stepsI_read rfl ?_
                      refine sxq_val 91 (.int .i64 ((rd_Play l0 (q : Int)).f0.f0)) (by rfl) (fun W hp => (ld1 (t := 3) (p := (.tmp 90)) (by rfl) (by rfl) (by kernel_rfl) (hp.cell 0 (by rfl) 0 _ (by rfl)))) ?_
                      refine sxq_nil ?_
                      refine stepsI_read rfl ?_
                      refine sxq_val 92 (.pointer (some (adr AN ((rd_Play l0 (q : Int)).f0.f0) 1))) (by rfl) (fun W hp => (ix_run (d := (Kd.int .i64)) (hD _ hp.tail.tail) (t := 30) (by rfl) (by rfl) (by rfl) Try.underlying30 (by kernel_rfl) (by omega) (by omega))) ?_
                      refine sxq_nil ?_
                      refine stepsI_read rfl ?_
                      refine sxq_val 93 (.int .i64 (rd l1 ((rd_Play l0 (q : Int)).f0.f0))) (by rfl) (fun W hp => (ld1 (t := 3) (p := (.tmp 92)) (by rfl) (by rfl) (by kernel_rfl) (el_cell (d := (Kd.int .i64)) (hD _ hp.tail.tail) 0 ((rd_Play l0 (q : Int)).f0.f0) (by omega) (by omega) (cells := [.int .i64 (rd l1 ((rd_Play l0 (q : Int)).f0.f0))]) (fun cs h => h) 0 _ (by rfl)))) ?_
                      refine sxq_nil ?_
                      refine stepsI_read rfl ?_
                      refine sxq_val 97 (.int .i64 ((rd_Play l0 (q : Int)).f0.f1)) (by rfl) (fun W hp => (ld1 (t := 3) (p := (.tmp 96)) (by rfl) (by rfl) (by kernel_rfl) (hp.cell 0 (by rfl) 1 _ (by rfl)))) ?_
                      refine sxq_nil ?_
                      refine stepsI_read rfl ?_
                      refine sxq_val 98 (.pointer (some (adr AN ((rd_Play l0 (q : Int)).f0.f1) 1))) (by rfl) (fun W hp => (ix_run (d := (Kd.int .i64)) (hD _ hp.tail.tail) (t := 30) (by rfl) (by rfl) (by rfl) Try.underlying30 (by kernel_rfl) (by omega) (by omega))) ?_
                      refine sxq_nil ?_
                      refine stepsI_read rfl ?_
                      refine sxq_val 99 (.int .i64 (rd l1 ((rd_Play l0 (q : Int)).f0.f1))) (by rfl) (fun W hp => (ld1 (t := 3) (p := (.tmp 98)) (by rfl) (by rfl) (by kernel_rfl) (el_cell (d := (Kd.int .i64)) (hD _ hp.tail.tail) 0 ((rd_Play l0 (q : Int)).f0.f1) (by omega) (by omega) (cells := [.int .i64 (rd l1 ((rd_Play l0 (q : Int)).f0.f1))]) (fun cs h => h) 0 _ (by rfl)))) ?_
                      refine sxq_nil ?_
                      refine stepsI_event rfl ?_
                      refine sx_call 100 (by rfl) (by kernel_rfl) ((tiOf_c (rd l1 ((rd_Play l0 (q : Int)).f0.f0)) (rd l1 ((rd_Play l0 (q : Int)).f0.f1)) _).mono ?_)
                      rintro _ W_29 ⟨rfl, hb⟩
                      refine ⟨_, rfl, ?_⟩
                      replace hp := hp.below hb
                      clear hb
                      refine step_fin hp ?_
                      refine stepsI_read rfl ?_
                      refine sxq_val 102 (.agg #[.int .i64 (mn (rd l1 ((rd_Play l0 (q : Int)).f0.f0)) (rd l1 ((rd_Play l0 (q : Int)).f0.f1))), .int .i64 (mx (rd l1 ((rd_Play l0 (q : Int)).f0.f0)) (rd l1 ((rd_Play l0 (q : Int)).f0.f1))), .int .i64 ((rd_Play l0 (q : Int)).f1)]) (by rfl) (fun W hp => (by kernel_rfl)) ?_
                      refine sxq_nil ?_
                      refine stepsI_event rfl ?_
                      refine sx_lit 103 (by rfl) k53 w.heap.size 53 ([(⟨⟨(mn (rd l1 ((rd_Play l0 (q : Int)).f0.f0)) (rd l1 ((rd_Play l0 (q : Int)).f0.f1))), (mx (rd l1 ((rd_Play l0 (q : Int)).f0.f0)) (rd l1 ((rd_Play l0 (q : Int)).f0.f1)))⟩, (rd_Play l0 (q : Int)).f1⟩ : S_Play)]) [.int .i64 (mn (rd l1 ((rd_Play l0 (q : Int)).f0.f0)) (rd l1 ((rd_Play l0 (q : Int)).f0.f1))), .int .i64 (mx (rd l1 ((rd_Play l0 (q : Int)).f0.f0)) (rd l1 ((rd_Play l0 (q : Int)).f0.f1))), .int .i64 ((rd_Play l0 (q : Int)).f1)] (fun W => by kernel_rfl) (play_reps _ _ _) (by simp) hp.size hp ?_
                      intro g_30 F_31 W_32 hp hz; clear hz
                      refine step_fin hp.tail ?_
                      refine stepsI_nil ?_
                      refine tail_of [17, 18] (by rfl) ?_
                      refine tailI_op rfl ?_
                      refine sx_append 104 (by rfl) k53 2 (by rfl) (.agg #[.int .i64 0, .int .i64 0, .int .i64 0]) 24 (by rfl) Try.underlying26 (by kernel_rfl) rfl (by decide) (by decide) ([(⟨⟨(mn (rd l1 ((rd_Play l0 (q : Int)).f0.f0)) (rd l1 ((rd_Play l0 (q : Int)).f0.f1))), (mx (rd l1 ((rd_Play l0 (q : Int)).f0.f0)) (rd l1 ((rd_Play l0 (q : Int)).f0.f1)))⟩, (rd_Play l0 (q : Int)).f1⟩ : S_Play)]) (by rfl) (by rfl) (row_C (hp.at_ 0 _ (by rfl))) play_kp hp.size (by simp; omega) hp ?_
                      intro A_33 c_34 F_35 W_36 hp hz; clear hz; simp only [List.set_cons_succ, List.set_cons_zero] at hp
                      refine tailI_next ?_
                      refine tailI_op rfl ?_
                      refine sx_rd 11 (.slice A_33 (((renTo l0 l1 q) ++ [(⟨⟨(mn (rd l1 ((rd_Play l0 (q : Int)).f0.f0)) (rd l1 ((rd_Play l0 (q : Int)).f0.f1))), (mx (rd l1 ((rd_Play l0 (q : Int)).f0.f0)) (rd l1 ((rd_Play l0 (q : Int)).f0.f1)))⟩, (rd_Play l0 (q : Int)).f1⟩ : S_Play)]).length) c_34) (by rfl) (by kernel_rfl) ?_
                      refine tailI_next ?_
                      refine tailI_nil ?_
                      refine ex_blk_n ?_
                      refine ex_then_n ?_
                      refine sx_region ?_
                      refine sx_rd 105 (.int .i64 ((q : Int) + 1)) (by rfl) (wr_ok (by omega) (by kernel_rfl)) ?_
                      refine sx_rd 69 (.int .i64 ((q : Int) + 1)) (by rfl) (by kernel_rfl) ?_
                      refine sx_nil ?_
                      refine ex_then_n ?_
                      have hnx : ((renTo l0 l1 q) ++ [(⟨⟨(mn (rd l1 ((rd_Play l0 (q : Int)).f0.f0)) (rd l1 ((rd_Play l0 (q : Int)).f0.f1))), (mx (rd l1 ((rd_Play l0 (q : Int)).f0.f0)) (rd l1 ((rd_Play l0 (q : Int)).f0.f1)))⟩, (rd_Play l0 (q : Int)).f1⟩ : S_Play)]) = renTo l0 l1 (q + 1) := by rw [renTo_next]; congr 2; simp only [renAt]; congr 1; first | (simp [hsw, c_12, c_16, c_17, c_18]; done) | (simp [hsw, c_12, c_16, c_17, c_18]; omega) | (simp only [hsw, c_12, c_16, c_17, c_18, true_and]; split <;> omega)
                      rw [hnx] at hp
                      exact ⟨_, (show l0.length - (q + 1) < l0.length - q by omega), _, q + 1, _, _, _, _, rfl, fr_front [(1, .slice AN l1.length cN), (10, .bool (decide ((rd l1 ((rd_Play l0 0).f0.f0)) > (rd l1 ((rd_Play l0 0).f0.f1))))), (11, .slice A_33 ((renTo l0 l1 (q + 1)).length) c_34), (67, .slice A0 l0.length c0), (68, .int .i64 (l0.length : Int)), (69, .int .i64 ((q + 1 : Nat) : Int))] ⟨rfl, rfl, congrArg (fun z : List S_Play => Value.slice A_33 z.length c_34) hnx, rfl, rfl, rfl, trivial⟩, (hp.take [2] 3 (by decide) (by simp)), (by omega)⟩
                  ·
                    have c_17p := of_decide_eq_false c_17
                    refine sx_region ?_
                    refine sx_rd 76 (.bool true) (by rfl) (bv c_16 (by kernel_rfl)) ?_
                    refine sx_rd 77 (.bool true) (by rfl) (by kernel_rfl) ?_
                    refine sx_want (by rfl) ?_
                    refine sx_rd 78 (.int .i64 (q : Int)) (by rfl) (by kernel_rfl) ?_
                    refine sx_want (by rfl) ?_
                    refine sx_rd 79 (.bool false) (by rfl) (bv c_17 (by kernel_rfl)) ?_
                    refine sx_rd 80 (.bool false) (by rfl) (by kernel_rfl) ?_
                    refine sx_rd 81 (.bool false) (by rfl) (by kernel_rfl) ?_
                    refine sx_skip 82 (by rfl) (by rfl) (by rfl) ?_
                    refine sx_skip 83 (by rfl) (by rfl) (by rfl) ?_
                    refine sx_rd 84 (.bool false) (by rfl) (by kernel_rfl) ?_
                    refine sx_nil ?_
                    refine ex_then_n ?_
                    refine sx_else false (by rfl) rfl ?_
                    refine wp_skip ?_
                    refine ex_then_n ?_
                    refine sx_draw [0, 1, 2, 3, 7, 8, 9, 14] [(true, 4), (true, 5), (true, 6), (true, 10), (true, 11), (true, 12), (false, 13), (true, 15), (false, 16)] 17 (C := Hp w (blk g_13 #[.int .i64 ((rd_Play l0 (q : Int)).f0.f0), .int .i64 ((rd_Play l0 (q : Int)).f0.f1), .int .i64 ((rd_Play l0 (q : Int)).f1)] 53 :: row k53 53 w.heap.size (.slice A2 n2 c2) (renTo l0 l1 q) F2 :: cs)) (by kernel_rfl) (by kernel_rfl) (fun d _ _ _ _ h => by cases d <;> exact h) (fun W h => h.drew) hp ?_
                    refine preI_read rfl ?_
                    refine sxq_val 87 (.slice A2 n2 c2) (by rfl) (fun W _ => (by kernel_rfl)) ?_
                    refine sxq_nil ?_
                    refine preI_read rfl ?_
                    refine sxq_val 88 (.slice AN l1.length cN) (by rfl) (fun W _ => (by kernel_rfl)) ?_
                    refine sxq_nil ?_
                    refine preI_read rfl ?_
                    refine sxq_val 89 (.pointer (some ⟨g_13, 0, none⟩)) (by rfl) (fun W _ => (by kernel_rfl)) ?_
                    refine sxq_nil ?_
                    refine preI_read rfl ?_
                    refine sxq_val 90 (.pointer (some ⟨g_13, 0, none⟩)) (by rfl) (fun W _ => (by kernel_rfl)) ?_
                    refine sxq_nil ?_
                    refine preI_read rfl ?_
                    refine sxq_val 94 (.slice AN l1.length cN) (by rfl) (fun W _ => (by kernel_rfl)) ?_
                    refine sxq_nil ?_
                    refine preI_read rfl ?_
                    refine sxq_val 95 (.pointer (some ⟨g_13, 0, none⟩)) (by rfl) (fun W _ => (by kernel_rfl)) ?_
                    refine sxq_nil ?_
                    refine preI_read rfl ?_
                    refine sxq_val 96 (.pointer (some ⟨g_13, 1, none⟩)) (by rfl) (fun W _ => (by kernel_rfl)) ?_
                    refine sxq_nil ?_
                    refine preI_read rfl ?_
                    refine sxq_val 101 (.int .i64 ((rd_Play l0 (q : Int)).f1)) (by rfl) (fun W _ => (by kernel_rfl)) ?_
                    refine sxq_nil ?_
                    refine preI_nil ?_
                    intro W_37 hp
                    refine stepsI_read rfl ?_
                    refine sxq_val 91 (.int .i64 ((rd_Play l0 (q : Int)).f0.f0)) (by rfl) (fun W hp => (ld1 (t := 3) (p := (.tmp 90)) (by rfl) (by rfl) (by kernel_rfl) (hp.cell 0 (by rfl) 0 _ (by rfl)))) ?_
                    refine sxq_nil ?_
                    refine stepsI_read rfl ?_
                    refine sxq_val 92 (.pointer (some (adr AN ((rd_Play l0 (q : Int)).f0.f0) 1))) (by rfl) (fun W hp => (ix_run (d := (Kd.int .i64)) (hD _ hp.tail.tail) (t := 30) (by rfl) (by rfl) (by rfl) Try.underlying30 (by kernel_rfl) (by omega) (by omega))) ?_
                    refine sxq_nil ?_
                    refine stepsI_read rfl ?_
                    refine sxq_val 93 (.int .i64 (rd l1 ((rd_Play l0 (q : Int)).f0.f0))) (by rfl) (fun W hp => (ld1 (t := 3) (p := (.tmp 92)) (by rfl) (by rfl) (by kernel_rfl) (el_cell (d := (Kd.int .i64)) (hD _ hp.tail.tail) 0 ((rd_Play l0 (q : Int)).f0.f0) (by omega) (by omega) (cells := [.int .i64 (rd l1 ((rd_Play l0 (q : Int)).f0.f0))]) (fun cs h => h) 0 _ (by rfl)))) ?_
                    refine sxq_nil ?_
                    refine stepsI_read rfl ?_
                    refine sxq_val 97 (.int .i64 ((rd_Play l0 (q : Int)).f0.f1)) (by rfl) (fun W hp => (ld1 (t := 3) (p := (.tmp 96)) (by rfl) (by rfl) (by kernel_rfl) (hp.cell 0 (by rfl) 1 _ (by rfl)))) ?_
                    refine sxq_nil ?_
                    refine stepsI_read rfl ?_
                    refine sxq_val 98 (.pointer (some (adr AN ((rd_Play l0 (q : Int)).f0.f1) 1))) (by rfl) (fun W hp => (ix_run (d := (Kd.int .i64)) (hD _ hp.tail.tail) (t := 30) (by rfl) (by rfl) (by rfl) Try.underlying30 (by kernel_rfl) (by omega) (by omega))) ?_
                    refine sxq_nil ?_
                    refine stepsI_read rfl ?_
                    refine sxq_val 99 (.int .i64 (rd l1 ((rd_Play l0 (q : Int)).f0.f1))) (by rfl) (fun W hp => (ld1 (t := 3) (p := (.tmp 98)) (by rfl) (by rfl) (by kernel_rfl) (el_cell (d := (Kd.int .i64)) (hD _ hp.tail.tail) 0 ((rd_Play l0 (q : Int)).f0.f1) (by omega) (by omega) (cells := [.int .i64 (rd l1 ((rd_Play l0 (q : Int)).f0.f1))]) (fun cs h => h) 0 _ (by rfl)))) ?_
                    refine sxq_nil ?_
                    refine stepsI_event rfl ?_
                    refine sx_call 100 (by rfl) (by kernel_rfl) ((tiOf_c (rd l1 ((rd_Play l0 (q : Int)).f0.f0)) (rd l1 ((rd_Play l0 (q : Int)).f0.f1)) _).mono ?_)
                    rintro _ W_38 ⟨rfl, hb⟩
                    refine ⟨_, rfl, ?_⟩
                    replace hp := hp.below hb
                    clear hb
                    refine step_fin hp ?_
                    refine stepsI_read rfl ?_
                    refine sxq_val 102 (.agg #[.int .i64 (mn (rd l1 ((rd_Play l0 (q : Int)).f0.f0)) (rd l1 ((rd_Play l0 (q : Int)).f0.f1))), .int .i64 (mx (rd l1 ((rd_Play l0 (q : Int)).f0.f0)) (rd l1 ((rd_Play l0 (q : Int)).f0.f1))), .int .i64 ((rd_Play l0 (q : Int)).f1)]) (by rfl) (fun W hp => (by kernel_rfl)) ?_
                    refine sxq_nil ?_
                    refine stepsI_event rfl ?_
                    refine sx_lit 103 (by rfl) k53 w.heap.size 53 ([(⟨⟨(mn (rd l1 ((rd_Play l0 (q : Int)).f0.f0)) (rd l1 ((rd_Play l0 (q : Int)).f0.f1))), (mx (rd l1 ((rd_Play l0 (q : Int)).f0.f0)) (rd l1 ((rd_Play l0 (q : Int)).f0.f1)))⟩, (rd_Play l0 (q : Int)).f1⟩ : S_Play)]) [.int .i64 (mn (rd l1 ((rd_Play l0 (q : Int)).f0.f0)) (rd l1 ((rd_Play l0 (q : Int)).f0.f1))), .int .i64 (mx (rd l1 ((rd_Play l0 (q : Int)).f0.f0)) (rd l1 ((rd_Play l0 (q : Int)).f0.f1))), .int .i64 ((rd_Play l0 (q : Int)).f1)] (fun W => by kernel_rfl) (play_reps _ _ _) (by simp) hp.size hp ?_
                    intro g_39 F_40 W_41 hp hz; clear hz
                    refine step_fin hp.tail ?_
                    refine stepsI_nil ?_
                    refine tail_of [17, 18] (by rfl) ?_
                    refine tailI_op rfl ?_
                    refine sx_append 104 (by rfl) k53 2 (by rfl) (.agg #[.int .i64 0, .int .i64 0, .int .i64 0]) 24 (by rfl) Try.underlying26 (by kernel_rfl) rfl (by decide) (by decide) ([(⟨⟨(mn (rd l1 ((rd_Play l0 (q : Int)).f0.f0)) (rd l1 ((rd_Play l0 (q : Int)).f0.f1))), (mx (rd l1 ((rd_Play l0 (q : Int)).f0.f0)) (rd l1 ((rd_Play l0 (q : Int)).f0.f1)))⟩, (rd_Play l0 (q : Int)).f1⟩ : S_Play)]) (by rfl) (by rfl) (row_C (hp.at_ 0 _ (by rfl))) play_kp hp.size (by simp; omega) hp ?_
                    intro A_42 c_43 F_44 W_45 hp hz; clear hz; simp only [List.set_cons_succ, List.set_cons_zero] at hp
                    refine tailI_next ?_
                    refine tailI_op rfl ?_
                    refine sx_rd 11 (.slice A_42 (((renTo l0 l1 q) ++ [(⟨⟨(mn (rd l1 ((rd_Play l0 (q : Int)).f0.f0)) (rd l1 ((rd_Play l0 (q : Int)).f0.f1))), (mx (rd l1 ((rd_Play l0 (q : Int)).f0.f0)) (rd l1 ((rd_Play l0 (q : Int)).f0.f1)))⟩, (rd_Play l0 (q : Int)).f1⟩ : S_Play)]).length) c_43) (by rfl) (by kernel_rfl) ?_
                    refine tailI_next ?_
                    refine tailI_nil ?_
                    refine ex_blk_n ?_
                    refine ex_then_n ?_
                    refine sx_region ?_
                    refine sx_rd 105 (.int .i64 ((q : Int) + 1)) (by rfl) (wr_ok (by omega) (by kernel_rfl)) ?_
                    refine sx_rd 69 (.int .i64 ((q : Int) + 1)) (by rfl) (by kernel_rfl) ?_
                    refine sx_nil ?_
                    refine ex_then_n ?_
                    have hnx : ((renTo l0 l1 q) ++ [(⟨⟨(mn (rd l1 ((rd_Play l0 (q : Int)).f0.f0)) (rd l1 ((rd_Play l0 (q : Int)).f0.f1))), (mx (rd l1 ((rd_Play l0 (q : Int)).f0.f0)) (rd l1 ((rd_Play l0 (q : Int)).f0.f1)))⟩, (rd_Play l0 (q : Int)).f1⟩ : S_Play)]) = renTo l0 l1 (q + 1) := by rw [renTo_next]; congr 2; simp only [renAt]; congr 1; first | (simp [hsw, c_12, c_16, c_17]; done) | (simp [hsw, c_12, c_16, c_17]; omega) | (simp only [hsw, c_12, c_16, c_17, true_and]; split <;> omega)
                    rw [hnx] at hp
                    exact ⟨_, (show l0.length - (q + 1) < l0.length - q by omega), _, q + 1, _, _, _, _, rfl, fr_front [(1, .slice AN l1.length cN), (10, .bool (decide ((rd l1 ((rd_Play l0 0).f0.f0)) > (rd l1 ((rd_Play l0 0).f0.f1))))), (11, .slice A_42 ((renTo l0 l1 (q + 1)).length) c_43), (67, .slice A0 l0.length c0), (68, .int .i64 (l0.length : Int)), (69, .int .i64 ((q + 1 : Nat) : Int))] ⟨rfl, rfl, congrArg (fun z : List S_Play => Value.slice A_42 z.length c_43) hnx, rfl, rfl, rfl, trivial⟩, (hp.take [2] 3 (by decide) (by simp)), (by omega)⟩
                ·
                  have c_16p := of_decide_eq_false c_16
                  refine sx_region ?_
                  refine sx_rd 76 (.bool false) (by rfl) (bv c_16 (by kernel_rfl)) ?_
                  refine sx_rd 77 (.bool false) (by rfl) (by kernel_rfl) ?_
                  refine sx_skip 78 (by rfl) (by rfl) (by rfl) ?_
                  refine sx_skip 79 (by rfl) (by rfl) (by rfl) ?_
                  refine sx_rd 80 (.bool false) (by rfl) (by kernel_rfl) ?_
                  refine sx_rd 81 (.bool false) (by rfl) (by kernel_rfl) ?_
                  refine sx_skip 82 (by rfl) (by rfl) (by rfl) ?_
                  refine sx_skip 83 (by rfl) (by rfl) (by rfl) ?_
                  refine sx_rd 84 (.bool false) (by rfl) (by kernel_rfl) ?_
                  refine sx_nil ?_
                  refine ex_then_n ?_
                  refine sx_else false (by rfl) rfl ?_
                  refine wp_skip ?_
                  refine ex_then_n ?_
                  refine sx_draw [0, 1, 2, 3, 7, 8, 9, 14] [(true, 4), (true, 5), (true, 6), (true, 10), (true, 11), (true, 12), (false, 13), (true, 15), (false, 16)] 17 (C := Hp w (blk g_13 #[.int .i64 ((rd_Play l0 (q : Int)).f0.f0), .int .i64 ((rd_Play l0 (q : Int)).f0.f1), .int .i64 ((rd_Play l0 (q : Int)).f1)] 53 :: row k53 53 w.heap.size (.slice A2 n2 c2) (renTo l0 l1 q) F2 :: cs)) (by kernel_rfl) (by kernel_rfl) (fun d _ _ _ _ h => by cases d <;> exact h) (fun W h => h.drew) hp ?_
                  refine preI_read rfl ?_
                  refine sxq_val 87 (.slice A2 n2 c2) (by rfl) (fun W _ => (by kernel_rfl)) ?_
                  refine sxq_nil ?_
                  refine preI_read rfl ?_
                  refine sxq_val 88 (.slice AN l1.length cN) (by rfl) (fun W _ => (by kernel_rfl)) ?_
                  refine sxq_nil ?_
                  refine preI_read rfl ?_
                  refine sxq_val 89 (.pointer (some ⟨g_13, 0, none⟩)) (by rfl) (fun W _ => (by kernel_rfl)) ?_
                  refine sxq_nil ?_
                  refine preI_read rfl ?_
                  refine sxq_val 90 (.pointer (some ⟨g_13, 0, none⟩)) (by rfl) (fun W _ => (by kernel_rfl)) ?_
                  refine sxq_nil ?_
                  refine preI_read rfl ?_
                  refine sxq_val 94 (.slice AN l1.length cN) (by rfl) (fun W _ => (by kernel_rfl)) ?_
                  refine sxq_nil ?_
                  refine preI_read rfl ?_
                  refine sxq_val 95 (.pointer (some ⟨g_13, 0, none⟩)) (by rfl) (fun W _ => (by kernel_rfl)) ?_
                  refine sxq_nil ?_
                  refine preI_read rfl ?_
                  refine sxq_val 96 (.pointer (some ⟨g_13, 1, none⟩)) (by rfl) (fun W _ => (by kernel_rfl)) ?_
                  refine sxq_nil ?_
                  refine preI_read rfl ?_
                  refine sxq_val 101 (.int .i64 ((rd_Play l0 (q : Int)).f1)) (by rfl) (fun W _ => (by kernel_rfl)) ?_
                  refine sxq_nil ?_
                  refine preI_nil ?_
                  intro W_46 hp
                  refine stepsI_read rfl ?_
                  refine sxq_val 91 (.int .i64 ((rd_Play l0 (q : Int)).f0.f0)) (by rfl) (fun W hp => (ld1 (t := 3) (p := (.tmp 90)) (by rfl) (by rfl) (by kernel_rfl) (hp.cell 0 (by rfl) 0 _ (by rfl)))) ?_
                  refine sxq_nil ?_
                  refine stepsI_read rfl ?_
                  refine sxq_val 92 (.pointer (some (adr AN ((rd_Play l0 (q : Int)).f0.f0) 1))) (by rfl) (fun W hp => (ix_run (d := (Kd.int .i64)) (hD _ hp.tail.tail) (t := 30) (by rfl) (by rfl) (by rfl) Try.underlying30 (by kernel_rfl) (by omega) (by omega))) ?_
                  refine sxq_nil ?_
                  refine stepsI_read rfl ?_
                  refine sxq_val 93 (.int .i64 (rd l1 ((rd_Play l0 (q : Int)).f0.f0))) (by rfl) (fun W hp => (ld1 (t := 3) (p := (.tmp 92)) (by rfl) (by rfl) (by kernel_rfl) (el_cell (d := (Kd.int .i64)) (hD _ hp.tail.tail) 0 ((rd_Play l0 (q : Int)).f0.f0) (by omega) (by omega) (cells := [.int .i64 (rd l1 ((rd_Play l0 (q : Int)).f0.f0))]) (fun cs h => h) 0 _ (by rfl)))) ?_
                  refine sxq_nil ?_
                  refine stepsI_read rfl ?_
                  refine sxq_val 97 (.int .i64 ((rd_Play l0 (q : Int)).f0.f1)) (by rfl) (fun W hp => (ld1 (t := 3) (p := (.tmp 96)) (by rfl) (by rfl) (by kernel_rfl) (hp.cell 0 (by rfl) 1 _ (by rfl)))) ?_
                  refine sxq_nil ?_
                  refine stepsI_read rfl ?_
                  refine sxq_val 98 (.pointer (some (adr AN ((rd_Play l0 (q : Int)).f0.f1) 1))) (by rfl) (fun W hp => (ix_run (d := (Kd.int .i64)) (hD _ hp.tail.tail) (t := 30) (by rfl) (by rfl) (by rfl) Try.underlying30 (by kernel_rfl) (by omega) (by omega))) ?_
                  refine sxq_nil ?_
                  refine stepsI_read rfl ?_
                  refine sxq_val 99 (.int .i64 (rd l1 ((rd_Play l0 (q : Int)).f0.f1))) (by rfl) (fun W hp => (ld1 (t := 3) (p := (.tmp 98)) (by rfl) (by rfl) (by kernel_rfl) (el_cell (d := (Kd.int .i64)) (hD _ hp.tail.tail) 0 ((rd_Play l0 (q : Int)).f0.f1) (by omega) (by omega) (cells := [.int .i64 (rd l1 ((rd_Play l0 (q : Int)).f0.f1))]) (fun cs h => h) 0 _ (by rfl)))) ?_
                  refine sxq_nil ?_
                  refine stepsI_event rfl ?_
                  refine sx_call 100 (by rfl) (by kernel_rfl) ((tiOf_c (rd l1 ((rd_Play l0 (q : Int)).f0.f0)) (rd l1 ((rd_Play l0 (q : Int)).f0.f1)) _).mono ?_)
                  rintro _ W_47 ⟨rfl, hb⟩
                  refine ⟨_, rfl, ?_⟩
                  replace hp := hp.below hb
                  clear hb
                  refine step_fin hp ?_
                  refine stepsI_read rfl ?_
                  refine sxq_val 102 (.agg #[.int .i64 (mn (rd l1 ((rd_Play l0 (q : Int)).f0.f0)) (rd l1 ((rd_Play l0 (q : Int)).f0.f1))), .int .i64 (mx (rd l1 ((rd_Play l0 (q : Int)).f0.f0)) (rd l1 ((rd_Play l0 (q : Int)).f0.f1))), .int .i64 ((rd_Play l0 (q : Int)).f1)]) (by rfl) (fun W hp => (by kernel_rfl)) ?_
                  refine sxq_nil ?_
                  refine stepsI_event rfl ?_
                  refine sx_lit 103 (by rfl) k53 w.heap.size 53 ([(⟨⟨(mn (rd l1 ((rd_Play l0 (q : Int)).f0.f0)) (rd l1 ((rd_Play l0 (q : Int)).f0.f1))), (mx (rd l1 ((rd_Play l0 (q : Int)).f0.f0)) (rd l1 ((rd_Play l0 (q : Int)).f0.f1)))⟩, (rd_Play l0 (q : Int)).f1⟩ : S_Play)]) [.int .i64 (mn (rd l1 ((rd_Play l0 (q : Int)).f0.f0)) (rd l1 ((rd_Play l0 (q : Int)).f0.f1))), .int .i64 (mx (rd l1 ((rd_Play l0 (q : Int)).f0.f0)) (rd l1 ((rd_Play l0 (q : Int)).f0.f1))), .int .i64 ((rd_Play l0 (q : Int)).f1)] (fun W => by kernel_rfl) (play_reps _ _ _) (by simp) hp.size hp ?_
                  intro g_48 F_49 W_50 hp hz; clear hz
                  refine step_fin hp.tail ?_
                  refine stepsI_nil ?_
                  refine tail_of [17, 18] (by rfl) ?_
                  refine tailI_op rfl ?_
                  refine sx_append 104 (by rfl) k53 2 (by rfl) (.agg #[.int .i64 0, .int .i64 0, .int .i64 0]) 24 (by rfl) Try.underlying26 (by kernel_rfl) rfl (by decide) (by decide) ([(⟨⟨(mn (rd l1 ((rd_Play l0 (q : Int)).f0.f0)) (rd l1 ((rd_Play l0 (q : Int)).f0.f1))), (mx (rd l1 ((rd_Play l0 (q : Int)).f0.f0)) (rd l1 ((rd_Play l0 (q : Int)).f0.f1)))⟩, (rd_Play l0 (q : Int)).f1⟩ : S_Play)]) (by rfl) (by rfl) (row_C (hp.at_ 0 _ (by rfl))) play_kp hp.size (by simp; omega) hp ?_
                  intro A_51 c_52 F_53 W_54 hp hz; clear hz; simp only [List.set_cons_succ, List.set_cons_zero] at hp
                  refine tailI_next ?_
                  refine tailI_op rfl ?_
                  refine sx_rd 11 (.slice A_51 (((renTo l0 l1 q) ++ [(⟨⟨(mn (rd l1 ((rd_Play l0 (q : Int)).f0.f0)) (rd l1 ((rd_Play l0 (q : Int)).f0.f1))), (mx (rd l1 ((rd_Play l0 (q : Int)).f0.f0)) (rd l1 ((rd_Play l0 (q : Int)).f0.f1)))⟩, (rd_Play l0 (q : Int)).f1⟩ : S_Play)]).length) c_52) (by rfl) (by kernel_rfl) ?_
                  refine tailI_next ?_
                  refine tailI_nil ?_
                  refine ex_blk_n ?_
                  refine ex_then_n ?_
                  refine sx_region ?_
                  refine sx_rd 105 (.int .i64 ((q : Int) + 1)) (by rfl) (wr_ok (by omega) (by kernel_rfl)) ?_
                  refine sx_rd 69 (.int .i64 ((q : Int) + 1)) (by rfl) (by kernel_rfl) ?_
                  refine sx_nil ?_
                  refine ex_then_n ?_
                  have hnx : ((renTo l0 l1 q) ++ [(⟨⟨(mn (rd l1 ((rd_Play l0 (q : Int)).f0.f0)) (rd l1 ((rd_Play l0 (q : Int)).f0.f1))), (mx (rd l1 ((rd_Play l0 (q : Int)).f0.f0)) (rd l1 ((rd_Play l0 (q : Int)).f0.f1)))⟩, (rd_Play l0 (q : Int)).f1⟩ : S_Play)]) = renTo l0 l1 (q + 1) := by rw [renTo_next]; congr 2; simp only [renAt]; congr 1; first | (simp [hsw, c_12, c_16]; done) | (simp [hsw, c_12, c_16]; omega) | (simp only [hsw, c_12, c_16, true_and]; split <;> omega)
                  rw [hnx] at hp
                  exact ⟨_, (show l0.length - (q + 1) < l0.length - q by omega), _, q + 1, _, _, _, _, rfl, fr_front [(1, .slice AN l1.length cN), (10, .bool (decide ((rd l1 ((rd_Play l0 0).f0.f0)) > (rd l1 ((rd_Play l0 0).f0.f1))))), (11, .slice A_51 ((renTo l0 l1 (q + 1)).length) c_52), (67, .slice A0 l0.length c0), (68, .int .i64 (l0.length : Int)), (69, .int .i64 ((q + 1 : Nat) : Int))] ⟨rfl, rfl, congrArg (fun z : List S_Play => Value.slice A_51 z.length c_52) hnx, rfl, rfl, rfl, trivial⟩, (hp.take [2] 3 (by decide) (by simp)), (by omega)⟩
              ·
                have c_12p := of_decide_eq_false c_12
                refine wp_exit ?_
                refine ex_then_e (ex_then_e (ex_blk_here ?_))
                refine ex_then_n ?_
                refine wp_seq ?_
                refine sx_region ?_
                refine sx_rd 106 (.slice A2 n2 c2) (by rfl) (by kernel_rfl) ?_
                refine sx_rd 4 (.slice A2 n2 c2) (by rfl) (by kernel_rfl) ?_
                refine sx_rd 5 (.bool true) (by rfl) (by kernel_rfl) ?_
                refine sx_nil ?_
                refine ex_then_n ?_
                refine wp_ret ?_
                refine sx_end (.tuple #[.slice A2 n2 c2, .bool true]) (res2 4 5 (by rfl)) ?_
                have hbw := hc2 _ (hp.tail)
                obtain rfl : q = l0.length := by omega
                rw [if_pos hgood] at h; simp only [Option.some.injEq, Prod.mk.injEq] at h; obtain ⟨rfl, rfl⟩ := h
                exact ⟨_, rfl, Kd.R_mono (row_R (hp.at_ 0 _ (by rfl))) (fun _ _ => trivial), hbw⟩
            ·
              have c_9p := of_decide_eq_false c_9
              refine sx_draw [0, 1, 2, 3] [(true, 4), (true, 5), (true, 6), (true, 7), (true, 8), (true, 9), (true, 10), (true, 11), (true, 12), (true, 13), (true, 14), (true, 15), (true, 16), (true, 17), (true, 18), (true, 19), (true, 20), (true, 21), (true, 22)] 23 (C := Hp w (cs)) (by kernel_rfl) (by kernel_rfl) (fun d _ _ _ _ h => by cases d <;> exact h) (fun W h => h.drew) hp ?_
              refine preI_read rfl ?_
              refine sxq_val 45 (.slice A0 l0.length c0) (by rfl) (fun W _ => (by kernel_rfl)) ?_
              refine sxq_nil ?_
              refine preI_read rfl ?_
              refine sxq_val 46 (.int .i64 (l0.length : Int)) (by rfl) (fun W _ => (by kernel_rfl)) ?_
              refine sxq_nil ?_
              refine preI_read rfl ?_
              refine sxq_val 47 (.bool false) (by rfl) (fun W _ => (bv c_9 (by kernel_rfl))) ?_
              refine sxq_nil ?_
              refine preI_read rfl ?_
              refine sxq_val 48 (.bool false) (by rfl) (fun W _ => (by kernel_rfl)) ?_
              refine sxq_nil ?_
              refine preI_nil ?_
              intro W_55 hp
              refine stepsI_read rfl ?_
              refine sxq_skip 49 (by rfl) (by rfl) (by rfl) ?_
              refine sxq_nil ?_
              refine stepsI_read rfl ?_
              refine sxq_skip 50 (by rfl) (by rfl) (by rfl) ?_
              refine sxq_nil ?_
              refine stepsI_read rfl ?_
              refine sxq_skip 51 (by rfl) (by rfl) (by rfl) ?_
              refine sxq_nil ?_
              refine stepsI_read rfl ?_
              refine sxq_skip 52 (by rfl) (by rfl) (by rfl) ?_
              refine sxq_nil ?_
              refine stepsI_read rfl ?_
              refine sxq_skip 53 (by rfl) (by rfl) (by rfl) ?_
              refine sxq_nil ?_
              refine stepsI_read rfl ?_
              refine sxq_skip 54 (by rfl) (by rfl) (by rfl) ?_
              refine sxq_nil ?_
              refine stepsI_read rfl ?_
              refine sxq_skip 55 (by rfl) (by rfl) (by rfl) ?_
              refine sxq_nil ?_
              refine stepsI_read rfl ?_
              refine sxq_skip 56 (by rfl) (by rfl) (by rfl) ?_
              refine sxq_nil ?_
              refine stepsI_read rfl ?_
              refine sxq_skip 57 (by rfl) (by rfl) (by rfl) ?_
              refine sxq_nil ?_
              refine stepsI_read rfl ?_
              refine sxq_skip 58 (by rfl) (by rfl) (by rfl) ?_
              refine sxq_nil ?_
              refine stepsI_read rfl ?_
              refine sxq_skip 59 (by rfl) (by rfl) (by rfl) ?_
              refine sxq_nil ?_
              refine stepsI_read rfl ?_
              refine sxq_skip 60 (by rfl) (by rfl) (by rfl) ?_
              refine sxq_nil ?_
              refine stepsI_read rfl ?_
              refine sxq_skip 61 (by rfl) (by rfl) (by rfl) ?_
              refine sxq_nil ?_
              refine stepsI_read rfl ?_
              refine sxq_skip 62 (by rfl) (by rfl) (by rfl) ?_
              refine sxq_nil ?_
              refine stepsI_read rfl ?_
              refine sxq_skip 63 (by rfl) (by rfl) (by rfl) ?_
              refine sxq_nil ?_
              refine stepsI_read rfl ?_
              refine sxq_skip 64 (by rfl) (by rfl) (by rfl) ?_
              refine sxq_nil ?_
              refine stepsI_read rfl ?_
              refine sxq_skip 65 (by rfl) (by rfl) (by rfl) ?_
              refine sxq_nil ?_
              refine stepsI_read rfl ?_
              refine sxq_val 66 (.bool false) (by rfl) (fun W hp => (by kernel_rfl)) ?_
              refine sxq_nil ?_
              refine stepsI_read rfl ?_
              refine sxq_val 10 (.bool false) (by rfl) (fun W hp => (by kernel_rfl)) ?_
              refine sxq_nil ?_
              refine stepsI_nil ?_
              refine sx_nil ?_
              refine ex_then_n ?_
              refine wp_seq ?_
              refine sx_region ?_
              refine sx_rd 11 (.slice none 0 0) (by rfl) (by kernel_rfl) ?_
              refine sx_nil ?_
              refine ex_then_n ?_
              refine wp_seq ?_
              refine wp_seq ?_
              refine sx_region ?_
              refine sx_rd 67 (.slice A0 l0.length c0) (by rfl) (by kernel_rfl) ?_
              refine sx_rd 68 (.int .i64 (l0.length : Int)) (by rfl) (by kernel_rfl) ?_
              refine sx_rd 69 (.int .i64 0) (by rfl) (by kernel_rfl) ?_
              refine sx_nil ?_
              refine ex_then_n ?_
              refine wp_block ?_
              have hgood : namesOk l1 := ⟨by omega, (by have q1 := (not_eq c_4); simpa using q1), fun j hj => hnd j (by omega)⟩
              replace hp := hp.nilrow k53 53 w.heap.size
              have hsw : renSwap l0 l1 = false := by show (decide ((l0.length : Int) > 0) && _) = _; rw [c_9]; rfl
              refine wp_loop_ghost (fun n a W => ∃ (r : List (Nat × Value)) (q : Nat) (A2 : Option Addr) (n2 c2 : Nat) (F2 : Nat → Prop), n = l0.length - q ∧ a = fr 107 ([(1, .slice AN l1.length cN), (10, .bool false), (11, .slice A2 n2 c2), (67, .slice A0 l0.length c0), (68, .int .i64 (l0.length : Int)), (69, .int .i64 (q : Int))] ++ r) ∧ Hp w (row k53 53 w.heap.size (.slice A2 n2 c2) (renTo l0 l1 q) F2 :: cs) W ∧ (q ≤ l0.length)) _ ⟨_, 0, _, _, _, _, rfl, fr_front [(1, .slice AN l1.length cN), (10, .bool false), (11, .slice none 0 0), (67, .slice A0 l0.length c0), (68, .int .i64 (l0.length : Int)), (69, .int .i64 0)] ⟨rfl, rfl, rfl, rfl, rfl, rfl, trivial⟩, (hp.take [0] 1 (by decide) (by simp)), Nat.zero_le _⟩ ?_
              rintro _ _ W_56 ⟨r, q, A2, n2, c2, F2, rfl, rfl, hp, hq⟩
              have hrl := renTo_len l0 l1 q
              refine wp_seq ?_
              refine sx_region ?_
              refine sx_rd 70 (.bool (decide ((q : Int) < (l0.length : Int)))) (by rfl) (by kernel_rfl) ?_
              refine sx_nil ?_
              refine ex_then_n ?_
              refine wp_seq ?_
              refine sx_cond (decide ((q : Int) < (l0.length : Int))) (by rfl) (fun c_57 => ?_) (fun c_57 => ?_)
              ·
                have c_57p := of_decide_eq_true c_57
                exfalso; omega
              ·
                have c_57p := of_decide_eq_false c_57
                refine wp_exit ?_
                refine ex_then_e (ex_then_e (ex_blk_here ?_))
                refine ex_then_n ?_
                refine wp_seq ?_
                refine sx_region ?_
                refine sx_rd 106 (.slice A2 n2 c2) (by rfl) (by kernel_rfl) ?_
                refine sx_rd 4 (.slice A2 n2 c2) (by rfl) (by kernel_rfl) ?_
                refine sx_rd 5 (.bool true) (by rfl) (by kernel_rfl) ?_
                refine sx_nil ?_
                refine ex_then_n ?_
                refine wp_ret ?_
                refine sx_end (.tuple #[.slice A2 n2 c2, .bool true]) (res2 4 5 (by rfl)) ?_
                have hbw := hc2 _ (hp.tail)
                obtain rfl : q = l0.length := by omega
                rw [if_pos hgood] at h; simp only [Option.some.injEq, Prod.mk.injEq] at h; obtain ⟨rfl, rfl⟩ := h
                exact ⟨_, rfl, Kd.R_mono (row_R (hp.at_ 0 _ (by rfl))) (fun _ _ => trivial), hbw⟩
  · rw [if_neg hsz] at h
    cases h
end Go.Proofs.Ytojjlabkbddcjaa.Hd
