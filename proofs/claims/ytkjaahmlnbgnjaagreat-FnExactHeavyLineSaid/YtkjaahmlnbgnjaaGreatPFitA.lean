/- The texts of a hand's moves; what impl.ends, has, sorted answer. -/
import Derived.Test.YtkjaahmlnbgnjaaGreatPMovesA
import Derived.Test.YtkjaahmlnbgnjaaGreatG0
import Derived.Test.YtkjaahmlnbgnjaaGreatG2
import Derived.Test.YtkjaahmlnbgnjaaGreatPSet
import Derived.Test.YtkjaahmlnbgnjaaGreatMSorted
namespace Go.Proofs.YtkjaahmlnbgnjaaGreat.Hd
open Go.RowKit Go.Proofs.YtkjaahmlnbgnjaaGreatW.PrintWords Go.Proofs.YtkjaahmlnbgnjaaGreatW.PrintLast Go.Proofs.YtkjaahmlnbgnjaaGreatW.PrintMore
set_option linter.unusedVariables false
set_option linter.unusedSimpArgs false
theorem clone_eq (l : List S_Tile) (h : l.length ≤ 8388608) : slices_Clone_impl_Tile_impl_Tile.f l = some l := by unfold slices_Clone_impl_Tile_impl_Tile.f; simp; omega
set_option maxRecDepth 100000 in
set_option maxHeartbeats 40000000 in
theorem impl_sorted.calls (A0 : Option Addr) (c0 : Nat) (l0 r : List S_Tile) (w : World) (hr0 : Kd.C k59 w A0 l0.length l0) (hc0 : l0.length ≤ c0) (h : impl_sorted.f l0 = some r) :
    Calls Tryz.prog 86 #[.slice A0 l0.length c0] w fun e w' => ∃ v0_ : Value, e = .returned (v0_) ∧ Kd.R k59 59 w' w.heap.size (fun _ => True) v0_ r ∧ Below w.heap.size w w' := by
  unfold impl_sorted.f at h
  by_cases hg : l0.all t10 = true ∧ l0.length ≤ 8388608
  case neg => rw [if_neg hg] at h; cases h
  rw [if_pos hg] at h
  obtain rfl := Option.some.inj h
  obtain ⟨hall0, hlen⟩ := hg
  have hall : ∀ t ∈ l0, t10 t = true := fun t ht => List.all_eq_true.1 hall0 t ht
  obtain ⟨cs, hcs⟩ : ∃ cs, cs = [old w w.heap.size] := ⟨_, rfl⟩
  have hp : Hp w cs w := by rw [hcs]; exact Hp.old_start w
  have hc2 : ∀ W, Hp w cs W → Below w.heap.size w W := fun W h => by rw [hcs] at h; exact h.since 0 _ rfl
  have hC : ∀ W, Hp w cs W → Kd.C k59 W A0 l0.length l0 := fun W h => Kd.C_below hr0 (hc2 W h)
  clear hcs
  refine sx_enter (N := 9) (l := [.slice A0 l0.length c0]) Tryz.func86 rfl rfl rfl ?_
  refine wp_seq ?_
  refine sx_region ?_
  refine sx_rd 2 (.slice none 0 0) (by rfl) (by kernel_rfl) ?_
  refine sx_nil ?_
  refine ex_then_n ?_
  refine wp_seq ?_
  refine sx_region ?_
  refine sx_rd 4 (.slice A0 l0.length c0) (by rfl) (by kernel_rfl) ?_
  refine sx_call 5 (by rfl) (by kernel_rfl) ((slices_Clone_impl_Tile_impl_Tile.calls A0 c0 l0 l0 _ (hC _ hp) hc0 (clone_eq l0 hlen)).mono ?_)
  rintro _ W_1 ⟨v0, rfl, hR, hb⟩
  refine ⟨_, rfl, ?_⟩
  obtain ⟨AC, cC, rfl, hcc, _⟩ := Kd.R_reads hR
  obtain ⟨FC, hp⟩ : ∃ F, Hp w (row k59 59 w.heap.size (.slice AC l0.length cC) l0 F :: cs) _ := ⟨_, Hp.made hp hb hR⟩
  refine sx_rd 3 (.slice AC l0.length cC) (by rfl) (by kernel_rfl) ?_
  refine sx_nil ?_
  refine ex_then_n ?_
  refine wp_seq ?_
  refine sx_region ?_
  refine sx_rd 6 (.slice AC l0.length cC) (by rfl) (by kernel_rfl) ?_
  refine sx_call 7 (by rfl) (by kernel_rfl) ((sort_R (row_R (hp.at_ 0 _ (by rfl))) hall hlen).mono ?_)
  rintro _ W_2 ⟨rfl, hR2, hm⟩
  refine ⟨_, rfl, ?_⟩
  obtain ⟨FD, hp⟩ := Hp.sort hp hm hR2
  refine sx_nil ?_
  refine ex_then_n ?_
  refine wp_seq ?_
  refine sx_region ?_
  refine sx_rd 8 (.slice AC l0.length cC) (by rfl) (by kernel_rfl) ?_
  refine sx_rd 2 (.slice AC l0.length cC) (by rfl) (by kernel_rfl) ?_
  refine sx_nil ?_
  refine ex_then_n ?_
  refine wp_ret ?_
  refine sx_end (.slice AC l0.length cC) (res1 2 (by rfl)) ?_
  exact ⟨_, rfl, Kd.R_mono (row_R (hp.at_ 0 _ (by rfl))) (fun _ _ => trivial), hc2 _ hp.tail⟩
end Go.Proofs.YtkjaahmlnbgnjaaGreat.Hd
namespace Go.Proofs.YtkjaahmlnbgnjaaGreat.Pure
open Go.RowKit Go.Proofs.YtkjaahmlnbgnjaaGreat.Hd Go.Proofs.YtkjaahmlnbgnjaaGreatW.PrintWords Go.Proofs.YtkjaahmlnbgnjaaGreatW.PrintLast
set_option linter.unusedVariables false
set_option linter.unusedSimpArgs false
theorem leT_iff (x y : S_Tile) : leT x y = true ↔ x.f0 < y.f0 ∨ (x.f0 = y.f0 ∧ x.f1 ≤ y.f1) := by unfold leT; rw [decide_eq_true_iff]
theorem leT_anti (x y : S_Tile) (h1 : leT x y = true) (h2 : leT y x = true) : x = y := by
  rw [leT_iff] at h1 h2
  obtain ⟨a, b⟩ := x
  obtain ⟨c, d⟩ := y
  dsimp only at h1 h2
  obtain ⟨rfl, rfl⟩ : a = c ∧ b = d := by omega
  rfl
theorem setT_pair : (setT 9).Pairwise (fun x y => leT x y = true ∧ x ≠ y) := of_decide_eq_true (by kernel_rfl)
theorem hand_t10 {l : List S_Tile} (h : l.all goodT = true) : l.all t10 = true := by
  rw [List.all_eq_true] at h ⊢
  intro t ht
  have := h t ht
  unfold goodT at this
  simp only [Bool.and_eq_true, decide_eq_true_eq] at this
  rw [t10_iff]; omega
theorem sort_eq {l : List S_Tile} (hg : l.all goodT = true) (hd : l.Nodup) : l.mergeSort leT = sortT l := by
  have h1 : (sortT l).Pairwise (fun x y => leT x y = true ∧ x ≠ y) := by unfold sortT keepT; exact setT_pair.filter _
  have hn : (sortT l).Nodup := h1.imp (fun h => h.2)
  refine List.Perm.eq_of_pairwise (le := fun x y => leT x y = true) (fun a b _ _ => leT_anti a b) ?_ (h1.imp fun h => h.1) ?_
  · exact List.pairwise_mergeSort (fun a b c h1 h2 => by rw [leT_iff] at *; omega) (fun a b => by
      rw [Bool.or_eq_true, leT_iff, leT_iff]; omega) l
  · refine (List.mergeSort_perm l leT).trans ?_
    rw [List.perm_ext_iff_of_nodup hd hn]
    intro t
    rw [sortT_mem]
    exact ⟨fun h => ⟨h, List.all_eq_true.1 hg t h⟩, fun h => h.1⟩
theorem sorted_eq {l : List S_Tile} (hg : l.all goodT = true) (hd : l.Nodup) (hl : l.length ≤ 8388608) : impl_sorted.f l = some (sortT l) := by
  unfold impl_sorted.f
  rw [if_pos ⟨hand_t10 hg, hl⟩, sort_eq hg hd]
end Go.Proofs.YtkjaahmlnbgnjaaGreat.Pure
namespace Go.Proofs.YtkjaahmlnbgnjaaGreat.Pure
open Go.RowKit Go.Proofs.YtkjaahmlnbgnjaaGreat.Hd Go.Proofs.YtkjaahmlnbgnjaaGreatW.PrintWords Go.Proofs.YtkjaahmlnbgnjaaGreatW.PrintLast
set_option linter.unusedVariables false
set_option linter.unusedSimpArgs false
def num1 (x : Int) : Int := (wrap64 (48 + x)) % 256
/-- A play's text. -/
def txt (x : S_plLay) : ByteArray := bif x.f2 then ⟨#[45]⟩ else strOfNums [num1 x.f0.f0, num1 x.f0.f1] ++ (bif x.f1 then ⟨#[108]⟩ else ⟨#[114]⟩)
theorem sorted_handG {hand : List S_Tile} (hb : handB hand = true) : impl_sorted.f hand = some (sortT hand) := by
  unfold handB at hb
  simp only [Bool.and_eq_true, decide_eq_true_eq, difT] at hb
  exact sorted_eq hb.2.1 hb.2.2 (by omega)
theorem has_eq (x y b : Int) : impl_Tile_has.f x y b = some (hasT ⟨x, y⟩ b) := by
  unfold impl_Tile_has.f hasT
  by_cases h : x = b
  · rw [if_pos h]; simp [h]
  · rw [if_neg h]; simp [h]
theorem ends_eq {r : List Int} (h : r.length ≠ 0) (hr : r.length ≤ 2000000) : impl_ends.f r = some (endA r, endB r) := by
  unfold impl_ends.f endA endB
  have e : wrap64 ((r.length : Int) - 1) = (r.length : Int) - 1 := w64' rfl (by omega) (by omega)
  rw [e, if_pos (by omega), if_pos (by omega), if_pos (by omega)]
theorem fitL_nil {r : List Int} {t : S_Tile} (h : r.length = 0) : fitL r t = [⟨t, true, false⟩] := by unfold fitL; rw [if_pos h]
end Go.Proofs.YtkjaahmlnbgnjaaGreat.Pure
