/- impl.TurnTable, by hand. -/
import Derived.Test.YtokkiiepddhkiaaDoorMTurnB
import Derived.Test.YtokkiiepddhkiaaDoorPTurnP
import Derived.Test.YtokkiiepddhkiaaDoorMStrs
import Derived.Test.YtokkiiepddhkiaaDoorMStrJ
import Derived.Test.YtokkiiepddhkiaaDoorMSxR
import Derived.Test.YtokkiiepddhkiaaDoorG2
namespace Go.Proofs.YtokkiiepddhkiaaDoor.Hd
open Go Go.RowKit Go.Shelf Go.Proofs.YtokkiiepddhkiaaDoor.Pure Go.Proofs.YtokkiiepddhkiaaDoorW.PrintWords Go.Proofs.YtokkiiepddhkiaaDoorW.PrintLast
set_option linter.unusedVariables false
set_option linter.unusedSimpArgs false
attribute [local go_sem] Oper.semAt_some
theorem turnT_eq (rows : List ByteArray) (wd : Nat) : turnT rows rows.length wd = turnR rows wd := by
  unfold turnT turnR
  refine List.map_congr_left fun y _ => ?_
  unfold colT colR mkB byB
  congr 2
  apply List.ext_getElem
  · simp
  · intro i h1 h2
    simp
theorem strs_own {W : World} {base n : Nat} {v : Value} {xs : List ByteArray} (hn : xs.length = n) (h : W.ownsRow base 9 1 v n (xs.map Value.string)) : Kd.R Kd.string 9 W base (fun _ => True) v xs := by
  subst hn
  exact ⟨fun k hk => trivial, _, h, reps_strs _⟩
theorem own_of_R {W : World} {base : Nat} {v : Value} {xs : List ByteArray} {ok : Nat → Prop} (h0 : 0 < xs.length) (h : Kd.R Kd.string 9 W base ok v xs) : ∃ g cap cur, v = .slice (some ⟨g, 0, none⟩) xs.length cap ∧ base ≤ g ∧ W.heap[g]? = some (.cells cur 9 (0, 0)) ∧ ∀ j, j < xs.length → cur[j]? = some (.string (xs[j]?.getD ByteArray.empty)) := by
  obtain ⟨A, c, hv, hcc, hC⟩ := Kd.R_reads h
  obtain ⟨-, inner, ho, hr⟩ := h
  rcases ho.2 with ⟨_, q⟩ | ⟨g, cap, cur, he, hb, hh, hc, hm, hcs, htk⟩
  · omega
  · refine ⟨g, cap, cur, he, hb, hh, fun j hj => ?_⟩
    rw [hv] at he
    injection he with e1 e2 e3
    subst e1
    have q := el_cell (d := Kd.string) hC ByteArray.empty (j : Int) (by omega) (by omega) (cells := [.string (xs[j]?.getD ByteArray.empty)]) (fun cs h => by
      have h2 : cs = [.string (xs.getD (j : Int).toNat ByteArray.empty)] := h
      rw [Int.toNat_natCast, List.getD_eq_getElem?_getD] at h2
      exact h2) 0 _ rfl
    have e4 : (adr (some ⟨g, 0, none⟩) (j : Int) Kd.string.sz).add 0 = ⟨g, j, none⟩ := by
      unfold adr
      rw [add_add, Option.getD_some]
      show Addr.add ⟨g, 0, none⟩ ((j : Int).toNat * 1 + 0) = _
      rw [Int.toNat_natCast, Nat.mul_one, Nat.add_zero]
      unfold Addr.add
      split
      · rename_i q; rw [q]
      · simp
    rw [e4] at q
    unfold World.cell? at q
    rw [hh] at q
    simpa using q
set_option maxHeartbeats 4000000 in
theorem turn_no (n : Nat) (hn : 2 ≤ n) (s : ByteArray) (w : World)
    (hI : ∀ W, Below w.heap.size w W → CallsIn Fence.wide (n - 1) Tryd.prog 17 #[.string s] W fun e W' => e = .returned (.bool false) ∧ Below W.heap.size W W') :
    CallsIn Fence.wide n Tryd.prog 7 #[.string s] w fun e W' => e = .returned (.tuple #[.string ⟨#[]⟩, .bool false]) ∧ Below w.heap.size w W' := by
  have h1n : 1 ≤ n := by omega
  have hF1 : Fence.wide.fn 17 := trivial
  refine callsIn_of_wp Tryd.func7 rfl trivial ?_ rfl
  simp only [Tryd.ntmps7, List.size_toArray, List.length_cons, List.length_nil, Nat.reduceAdd, Nat.reduceSub, Array.replicate_succ, Array.replicate_zero, List.push_toArray, List.append_toArray, List.nil_append, List.cons_append]
  gi_wp2_with (gi_at_call 17; refine (hI _ (Below.refl _ _)).mono ?_; rintro e w1 ⟨rfl, hb1⟩)
  refine bodyPost_ret (results_tmp2 rfl _ _ _) rfl ?_
  exact ⟨rfl, hb1⟩
def impl_TurnTable.f (a0 : ByteArray) : Option (ByteArray × Bool) := if a0.size ≤ 1048576 then some (turnF a0) else none
theorem impl_TurnTable.calls (a0 : ByteArray) (r0 : ByteArray) (r1 : Bool) (w : World) (hmx : ∃ m, w.cell? ⟨0, 0, none⟩ = some (.int .i64 m)) (h : impl_TurnTable.f a0 = some (r0, r1)) :
    Calls Tryd.prog 7 #[.string a0] w fun e w' => e = .returned (.tuple #[.string r0, .bool r1]) ∧ Below w.heap.size w w' := by
  unfold impl_TurnTable.f at h
  by_cases hs : a0.size ≤ 1048576
  case neg => rw [if_neg hs] at h; cases h
  rw [if_pos hs] at h
  obtain ⟨k, hk⟩ := Ev.rounds (implIsTable_ev a0 hs)
  have hmW : ∀ W, Below w.heap.size w W → ∃ m, W.cell? ⟨0, 0, none⟩ = some (.int .i64 m) := fun W hB => hmx.imp fun m q => (hB.cell (World.block_lt_of_cell? _ _ q)).trans q
  unfold turnF at h
  cases ht : isTab a0 with
  | false =>
    rw [ht] at h hk
    rw [if_neg (by simp)] at h
    simp only [Option.some.injEq, Prod.mk.injEq] at h
    obtain ⟨rfl, rfl⟩ := h
    exact (callsIn_wide (n := 2)).1 (turn_no 2 (by omega) a0 w (fun W hB => (callsIn_wide (n := 2 - 1)).2 (impl_IsTable.calls k a0 false W (hmW W hB) hk)))
  | true =>
    rw [ht] at h hk
    rw [if_pos rfl] at h
    simp only [Option.some.injEq, Prod.mk.injEq] at h
    obtain ⟨rfl, rfl⟩ := h
    obtain ⟨d1, d2, d3, d4, d5⟩ := form_size (sg := digs) ht
    have hw := w0_le a0
    have hw2 : w0 (rowsB a0) ≤ (rowsB a0).length * w0 (rowsB a0) := Nat.le_mul_of_pos_left _ hw.2.2
    have hR2 : (rowsB a0).length ≤ (rowsB a0).length * w0 (rowsB a0) := Nat.le_mul_of_pos_right _ d3
    refine (callsIn_wide (n := 6)).1 (turn_body 6 (by omega) a0 (rowsB a0) (rowsB a0).length (w0 (rowsB a0)) hw.2.2 (by omega) d3 (by omega) rfl d2 (joinB (turnR (rowsB a0) (w0 (rowsB a0)))) w ?_ ?_ ?_)
    · exact fun W hB => (callsIn_wide (n := 6 - 1)).2 (impl_IsTable.calls k a0 true W (hmW W hB) hk)
    · intro W hB
      refine ((callsIn_wide (n := 6 - 1)).2 (strings_Split.calls a0 ⟨#[47]⟩ (rowsB a0) W (hmW W hB) (split_f a0 hs))).mono ?_
      rintro e W' ⟨v, rfl, hv, hb⟩
      obtain ⟨g, cap, cur, rfl, q1, q2, q3⟩ := own_of_R hw.2.2 hv
      exact ⟨g, cap, cur, rfl, q1, q2, q3, hb⟩
    · intro W v hB hv
      rw [turnT_eq] at hv
      obtain ⟨A, c, rfl, hcc, hC⟩ := Kd.R_reads (strs_own (turnR_len _ _) hv)
      have hl := turnR_len (rowsB a0) (w0 (rowsB a0))
      refine ((callsIn_wide (n := 6 - 1)).2 (strings_Join.calls A c (turnR (rowsB a0) (w0 (rowsB a0))) ⟨#[47]⟩ (joinB (turnR (rowsB a0) (w0 (rowsB a0)))) W hC hcc (join_f _ (by have q := turn_sum (rowsB a0) (w0 (rowsB a0)); rw [Nat.mul_comm] at q; omega))))
end Go.Proofs.YtokkiiepddhkiaaDoor.Hd
