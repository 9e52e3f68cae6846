/- A hand sorted by the library and by the reference: one list. -/
import Derived.Test.YtjaojemmbeddfaaGreatPSet0
import Derived.Test.YtjaojemmbeddfaaGreatMSorted
namespace Go.Proofs.YtjaojemmbeddfaaGreat.Pure
open Go.RowKit Go.Proofs.YtjaojemmbeddfaaGreat.Hd Go.Proofs.YtjaojemmbeddfaaGreatW.PrintWords Go.Proofs.YtjaojemmbeddfaaGreatW.PrintLast
set_option linter.unusedVariables false
set_option linter.unusedSimpArgs false
theorem leT_iff (x y : S_Tile) : leT x y = true ↔ x.f0 < y.f0 ∨ (x.f0 = y.f0 ∧ x.f1 ≤ y.f1) := by unfold leT; rw [decide_eq_true_iff]
theorem leT_anti (x y : S_Tile) (h1 : leT x y = true) (h2 : leT y x = true) : x = y := by
  rw [leT_iff] at h1 h2
  obtain ⟨a, b⟩ := x
  obtain ⟨c, d⟩ := y
  dsimp only at h1 h2
  obtain ⟨rfl, rfl⟩ : a = c ∧ b = d := by omega
  rfl
theorem setT_pair : (setT 9).Pairwise (fun x y => leT x y = true ∧ x ≠ y) := of_decide_eq_true (by kernel_rfl)
theorem hand_t10 {l : List S_Tile} (h : l.all goodT = true) : l.all t10 = true := by
  rw [List.all_eq_true] at h ⊢
  intro t ht
  have := h t ht
  unfold goodT at this
  simp only [Bool.and_eq_true, decide_eq_true_eq] at this
  rw [t10_iff]; omega
theorem sort_eq {l : List S_Tile} (hg : l.all goodT = true) (hd : l.Nodup) : l.mergeSort leT = sortT l := by
  have h1 : (sortT l).Pairwise (fun x y => leT x y = true ∧ x ≠ y) := by unfold sortT keepT; exact setT_pair.filter _
  have hn : (sortT l).Nodup := h1.imp (fun h => h.2)
  refine List.Perm.eq_of_pairwise (le := fun x y => leT x y = true) (fun a b _ _ => leT_anti a b) ?_ (h1.imp fun h => h.1) ?_
  · exact List.pairwise_mergeSort (fun a b c h1 h2 => by rw [leT_iff] at *; omega) (fun a b => by
      rw [Bool.or_eq_true, leT_iff, leT_iff]; omega) l
  · refine (List.mergeSort_perm l leT).trans ?_
    rw [List.perm_ext_iff_of_nodup hd hn]
    intro t
    rw [sortT_mem]
    exact ⟨fun h => ⟨h, List.all_eq_true.1 hg t h⟩, fun h => h.1⟩
theorem sorted_eq {l : List S_Tile} (hg : l.all goodT = true) (hd : l.Nodup) (hl : l.length ≤ 8388608) : impl_sorted.f l = some (sortT l) := by
  unfold impl_sorted.f
  rw [if_pos ⟨hand_t10 hg, hl⟩, sort_eq hg hd]
end Go.Proofs.YtjaojemmbeddfaaGreat.Pure
