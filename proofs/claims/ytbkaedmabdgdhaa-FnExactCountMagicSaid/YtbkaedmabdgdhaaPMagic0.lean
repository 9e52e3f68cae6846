/- Magic rows: the program's answer (plain). -/
import Derived.Test.YtbkaedmabdgdhaaPColumns0
import Derived.Test.YtbkaedmabdgdhaaPWin0
import Derived.Test.YtbkaedmabdgdhaaG0
import Derived.Test.YtbkaedmabdgdhaaPEv
import Derived.Test.YtbkaedmabdgdhaaMCompactInt
namespace Go.Proofs.Ytbkaedmabdgdhaa.Hd
open Go.RowKit Go.Proofs.YtbkaedmabdgdhaaW.PrintWords Go.Proofs.YtbkaedmabdgdhaaW.PrintLast Go.Proofs.YtbkaedmabdgdhaaW.PrintMore
set_option linter.unusedVariables false
set_option linter.unusedSimpArgs false
def impl_isMagic.f (k : Nat) (l0 : List (List Int)) : Option Bool := (impl_rowSums.f k l0).bind fun a => if one a = true then (impl_columnSums.f k l0).map one else some false
set_option maxHeartbeats 2000000 in
theorem impl_isMagic.calls (k : Nat) (A0 : Option Addr) (c0 : Nat) (l0 : List (List Int)) (r : Bool) (w : World) (hr0 : Kd.C (Kd.slice 3 (Kd.int .i64)) w A0 l0.length l0) (hc0 : l0.length ≤ c0) (h : impl_isMagic.f k l0 = some r) :
    Calls Try.prog 51 #[.slice A0 l0.length c0] w fun e w' => e = .returned (.bool r) ∧ Below w.heap.size w w' := by
  have HR : Aside0 (∀ W, Below w.heap.size w W → Kd.C (Kd.slice 3 (Kd.int .i64)) W A0 l0.length l0) := ⟨fun W hb => Kd.C_below hr0 hb⟩
  obtain ⟨s, hs, h2⟩ := Option.bind_eq_some_iff.1 h
  have hcs := impl_rowSums.calls k A0 c0 l0 s w hr0 hc0 hs
  clear h hs hr0
  obtain ⟨b, hb⟩ : ∃ b, one s = b := ⟨_, rfl⟩
  rw [hb] at h2
  have hd : (((Lib.compact s).length : Int) == 1) = b := hb
  clear hb
  cases b with
  | false =>
    rw [if_neg (by simp)] at h2
    obtain rfl := Option.some.inj h2
    clear h2
    go_enter Try.func51, Try.ntmps51
    go_wp2_with (first | (go_at_call 81; refine hcs.mono ?_; rintro e w1 ⟨v, rfl, hR, hb1⟩; replace hR := Aside0.mk hR; replace hb1 := Aside0.mk hb1) | (go_at_call 39; refine (compact_own hR.out).mono ?_; rintro e w2 ⟨⟨a, c, rfl⟩, hb2⟩; replace hb2 := Aside0.mk hb2))
    all_goals first | (go_ret; exact ⟨by first | rfl | simp_all, hb1.out.trans hb2.out⟩) | (exfalso; simp_all; done)
  | true =>
    rw [if_pos rfl] at h2
    obtain ⟨s2, hs2, rfl⟩ := Option.map_eq_some_iff.1 h2
    clear h2
    replace hs2 := Aside0.mk hs2
    obtain ⟨b, hb⟩ : ∃ b, one s2 = b := ⟨_, rfl⟩
    have hd2 : (((Lib.compact s2).length : Int) == 1) = b := hb
    rw [hb]
    clear hb
    go_enter Try.func51, Try.ntmps51
    go_wp2_with (first | (go_at_call 81; refine hcs.mono ?_; rintro e w1 ⟨v, rfl, hR, hb1⟩; replace hR := Aside0.mk hR; replace hb1 := Aside0.mk hb1) | (go_at_call 39; refine (compact_own hR.out).mono ?_; rintro e w2 ⟨⟨a, c, rfl⟩, hb2⟩; replace hb2 := Aside0.mk (hb1.out.trans hb2); clear hR) | (go_at_call 82; refine (impl_columnSums.calls k A0 c0 l0 s2 _ (HR.out _ hb2.out) hc0 hs2.out).mono ?_; rintro e w3 ⟨v3, rfl, hR3, hb3⟩; replace hR3 := Aside0.mk hR3; replace hb3 := Aside0.mk (hb2.out.trans (hb3.mono hb2.out.size))) | (go_at_call 39; refine (compact_own hR3.out).mono ?_; rintro e w4 ⟨⟨a4, c4, rfl⟩, hb4⟩; replace hb4 := Aside0.mk (hb3.out.trans (hb4.mono hb2.out.size))))
    all_goals first | (go_ret; exact ⟨by first | rfl | simp_all, hb4.out⟩) | (exfalso; simp_all; done)
end Go.Proofs.Ytbkaedmabdgdhaa.Hd
namespace Go.Proofs.Ytbkaedmabdgdhaa.Pure
open Go.RowKit Go.Proofs.Ytbkaedmabdgdhaa.Hd Go.Proofs.YtbkaedmabdgdhaaW.PrintWords Go.Proofs.YtbkaedmabdgdhaaW.PrintLast
set_option linter.unusedVariables false
set_option linter.unusedSimpArgs false
theorem all_take_succ {α : Type} {p : α → Bool} {l : List α} {i : Nat} (h : i < l.length) (ha : (l.take i).all p = true) (hp : p l[i] = true) : (l.take (i + 1)).all p = true := by
  rw [List.take_succ_eq_append_getElem h, List.all_append, ha]; simp [hp]
theorem all_not {α : Type} {p : α → Bool} {l : List α} {i : Nat} (h : i < l.length) (hp : p l[i] = false) : l.all p = false := by
  rw [List.all_eq_false]; exact ⟨_, List.getElem_mem h, by simp [hp]⟩
end Go.Proofs.Ytbkaedmabdgdhaa.Pure
namespace Go.Proofs.Ytbkaedmabdgdhaa.Pure
open Go.RowKit Go.Proofs.Ytbkaedmabdgdhaa.Hd Go.Proofs.YtbkaedmabdgdhaaW.PrintWords Go.Proofs.YtbkaedmabdgdhaaW.PrintLast
set_option linter.unusedVariables false
set_option linter.unusedSimpArgs false
def allEq (r : List Int) : Bool := r.all fun x => decide (x = rd r 0)
theorem equal_l0 (r : List Int) (hl : r.length ≤ 1048576) : ∀ (d i : Nat), i + d = r.length → (r.take i).all (fun x => decide (x = rd r 0)) = true →
    Ev (fun k => spec_wiEqual.l0 k r r (r.length : Int) (i : Int)) (allEq r) := by
  intro d
  induction d with
  | zero =>
    intro i hi ha
    refine Ev.succ ?_
    simp only [spec_wiEqual.l0]
    refine Ev.neg (by omega) (Ev.ret ?_)
    rw [List.take_of_length_le (by omega)] at ha
    exact ha.symm
  | succ d ih =>
    intro i hi ha
    refine Ev.succ ?_
    simp only [spec_wiEqual.l0]
    have hlt : i < r.length := by omega
    refine Ev.pos (by omega) (Ev.pos (by omega) (Ev.pos (by omega) (Ev.pos (by omega) ?_)))
    rw [rd_at hlt]
    by_cases c : r[i] = rd r 0
    · refine Ev.pos c ?_
      rw [w64' (m := ((i + 1 : Nat) : Int)) (by omega) (by omega) (by omega)]
      exact ih (i + 1) (by omega) (all_take_succ hlt ha (decide_eq_true c))
    · exact Ev.neg c (Ev.ret (all_not (p := fun x => decide (x = rd r 0)) hlt (decide_eq_false c)).symm)
theorem equal_ev (r : List Int) (hl : r.length ≤ 1048576) : Ev (fun k => spec_wiEqual.f k r) (allEq r) := by
  unfold spec_wiEqual.f
  exact equal_l0 r hl r.length 0 (by omega) (by simp)
theorem one_all (r : List Int) (h : 0 < r.length) : Hd.one r = allEq r := by
  obtain ⟨m, hm⟩ : ∃ m, r.length = m + 1 := ⟨r.length - 1, by omega⟩
  have kz : Lib.keeps r.toArray 0 = true := by simp [Lib.keeps]
  have e : (Lib.compact r).length = 1 + ((List.range m).filter fun j => Lib.keeps r.toArray (j + 1)).length := by
    unfold Lib.compact Lib.compactUpTo
    rw [List.length_map, hm, List.range_succ_eq_map, List.filter_cons, if_pos kz, List.length_cons, List.filter_map, List.length_map]
    exact Nat.add_comm _ _
  have ks : ∀ j, j < m → Lib.keeps r.toArray (j + 1) = !decide (rd r ((j + 1 : Nat) : Int) = rd r (j : Int)) := by
    intro j hj
    rw [rd_at (by omega), rd_at (by omega)]
    have h1 : j + 1 < r.length := by omega
    have h2 : j < r.length := by omega
    simp [Lib.keeps, h1, h2]
  rw [Bool.eq_iff_iff]
  unfold Hd.one allEq
  rw [beq_iff_eq, List.all_eq_true]
  constructor
  · intro q
    have q0 : ((List.range m).filter fun j => Lib.keeps r.toArray (j + 1)).length = 0 := by omega
    have q1 := List.eq_nil_of_length_eq_zero q0
    rw [List.filter_eq_nil_iff] at q1
    have st : ∀ j, j < m → rd r ((j + 1 : Nat) : Int) = rd r (j : Int) := by
      intro j hj
      have := q1 j (List.mem_range.2 hj)
      rw [ks j hj] at this
      simpa using this
    have all : ∀ j, j < m + 1 → rd r (j : Int) = rd r 0 := by
      intro j
      induction j with
      | zero => intro _; rfl
      | succ j ih => intro hj; rw [st j (by omega)]; exact ih (by omega)
    intro x hx
    obtain ⟨i, hi, rfl⟩ := List.mem_iff_getElem.1 hx
    rw [decide_eq_true_eq, ← rd_at hi]
    exact all i (by omega)
  · intro q
    have all : ∀ j, j < m + 1 → rd r (j : Int) = rd r 0 := by
      intro j hj
      have hj2 : j < r.length := by omega
      rw [rd_at hj2]
      simpa using q r[j] (List.getElem_mem hj2)
    have q1 : ((List.range m).filter fun j => Lib.keeps r.toArray (j + 1)) = [] := by
      rw [List.filter_eq_nil_iff]
      intro j hj
      have hj := List.mem_range.1 hj
      rw [ks j hj, all (j + 1) (by omega), all j (by omega)]
      simp
    rw [e, q1]; rfl
def magicB (l : List (List Int)) : Bool := allEq (rowsV l) && allEq (colsV l)
theorem isMagicR_ev {l : List (List Int)} (h : rectL l) (hpos : 0 < (rd_i64s l 0).length) : Ev (fun k => impl_isMagic.f k l) (magicB l) := by
  have hb := h.1
  have hr := h.2
  have hrl := rowsV_len l
  have hcl := colsV_len l
  unfold impl_isMagic.f magicB
  refine Ev.bd (rowSums_ev l (by omega) (fun x hx => by have := hr x hx; omega)) ?_
  rw [one_all _ (by omega)]
  by_cases c : allEq (rowsV l) = true
  · refine Ev.pos c ?_
    rw [c, Bool.true_and]
    obtain ⟨k, hk⟩ := columnSumsR_ev h
    exact ⟨k, fun j hj => by simp only [hk j hj, Option.map_some, one_all _ (show 0 < (colsV l).length by omega)]⟩
  · refine Ev.neg c (Ev.ret ?_)
    rw [Bool.eq_false_iff.2 c, Bool.false_and]
end Go.Proofs.Ytbkaedmabdgdhaa.Pure
