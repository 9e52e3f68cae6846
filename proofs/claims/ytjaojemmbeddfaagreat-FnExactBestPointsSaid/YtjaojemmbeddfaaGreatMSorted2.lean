/- impl.sorted, by hand: the walk. -/
import Derived.Test.YtjaojemmbeddfaaGreatMSorted
namespace Go.Proofs.YtjaojemmbeddfaaGreat.Hd
open Go.RowKit Go.Proofs.YtjaojemmbeddfaaGreatW.PrintWords Go.Proofs.YtjaojemmbeddfaaGreatW.PrintLast Go.Proofs.YtjaojemmbeddfaaGreatW.PrintMore
set_option linter.unusedVariables false
set_option linter.unusedSimpArgs false
theorem clone_eq (l : List S_Tile) (h : l.length ≤ 8388608) : slices_Clone_impl_Tile_impl_Tile.f l = some l := by unfold slices_Clone_impl_Tile_impl_Tile.f; simp; omega
set_option maxRecDepth 100000 in
set_option maxHeartbeats 40000000 in
theorem impl_sorted.calls (A0 : Option Addr) (c0 : Nat) (l0 r : List S_Tile) (w : World) (hr0 : Kd.C k53 w A0 l0.length l0) (hc0 : l0.length ≤ c0) (h : impl_sorted.f l0 = some r) :
    Calls Tryz.prog 58 #[.slice A0 l0.length c0] w fun e w' => ∃ v0_ : Value, e = .returned (v0_) ∧ Kd.R k53 53 w' w.heap.size (fun _ => True) v0_ r ∧ Below w.heap.size w w' := by
  unfold impl_sorted.f at h
  by_cases hg : l0.all t10 = true ∧ l0.length ≤ 8388608
  case neg => rw [if_neg hg] at h; cases h
  rw [if_pos hg] at h
  obtain rfl := Option.some.inj h
  obtain ⟨hall0, hlen⟩ := hg
  have hall : ∀ t ∈ l0, t10 t = true := fun t ht => List.all_eq_true.1 hall0 t ht
  obtain ⟨cs, hcs⟩ : ∃ cs, cs = [old w w.heap.size] := ⟨_, rfl⟩
  have hp : Hp w cs w := by rw [hcs]; exact Hp.old_start w
  have hc2 : ∀ W, Hp w cs W → Below w.heap.size w W := fun W h => by rw [hcs] at h; exact h.since 0 _ rfl
  have hC : ∀ W, Hp w cs W → Kd.C k53 W A0 l0.length l0 := fun W h => Kd.C_below hr0 (hc2 W h)
  clear hcs
  refine sx_enter (N := 9) (l := [.slice A0 l0.length c0]) Tryz.func58 rfl rfl rfl ?_
  refine wp_seq ?_
  refine sx_region ?_
  refine sx_rd 2 (.slice none 0 0) (by rfl) (by kernel_rfl) ?_
  refine sx_nil ?_
  refine ex_then_n ?_
  refine wp_seq ?_
  refine sx_region ?_
  refine sx_rd 4 (.slice A0 l0.length c0) (by rfl) (by kernel_rfl) ?_
  refine sx_call 5 (by rfl) (by kernel_rfl) ((slices_Clone_impl_Tile_impl_Tile.calls A0 c0 l0 l0 _ (hC _ hp) hc0 (clone_eq l0 hlen)).mono ?_)
  rintro _ W_1 ⟨v0, rfl, hR, hb⟩
  refine ⟨_, rfl, ?_⟩
  obtain ⟨AC, cC, rfl, hcc, _⟩ := Kd.R_reads hR
  obtain ⟨FC, hp⟩ : ∃ F, Hp w (row k53 53 w.heap.size (.slice AC l0.length cC) l0 F :: cs) _ := ⟨_, Hp.made hp hb hR⟩
  refine sx_rd 3 (.slice AC l0.length cC) (by rfl) (by kernel_rfl) ?_
  refine sx_nil ?_
  refine ex_then_n ?_
  refine wp_seq ?_
  refine sx_region ?_
  refine sx_rd 6 (.slice AC l0.length cC) (by rfl) (by kernel_rfl) ?_
  refine sx_call 7 (by rfl) (by kernel_rfl) ((sort_R (row_R (hp.at_ 0 _ (by rfl))) hall hlen).mono ?_)
  rintro _ W_2 ⟨rfl, hR2, hm⟩
  refine ⟨_, rfl, ?_⟩
  obtain ⟨FD, hp⟩ := Hp.sort hp hm hR2
  refine sx_nil ?_
  refine ex_then_n ?_
  refine wp_seq ?_
  refine sx_region ?_
  refine sx_rd 8 (.slice AC l0.length cC) (by rfl) (by kernel_rfl) ?_
  refine sx_rd 2 (.slice AC l0.length cC) (by rfl) (by kernel_rfl) ?_
  refine sx_nil ?_
  refine ex_then_n ?_
  refine wp_ret ?_
  refine sx_end (.slice AC l0.length cC) (res1 2 (by rfl)) ?_
  exact ⟨_, rfl, Kd.R_mono (row_R (hp.at_ 0 _ (by rfl))) (fun _ _ => trivial), hc2 _ hp.tail⟩
end Go.Proofs.YtjaojemmbeddfaaGreat.Hd
