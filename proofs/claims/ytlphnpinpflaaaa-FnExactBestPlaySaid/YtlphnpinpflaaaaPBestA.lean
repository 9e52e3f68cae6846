/- BestPlay: the play with the most points, the first of these: plain. -/
import Derived.Test.YtlphnpinpflaaaaMLyCan
namespace Go.Proofs.Ytlphnpinpflaaaa.Pure
open Go.RowKit Go.Proofs.Ytlphnpinpflaaaa.Hd Go.Proofs.YtlphnpinpflaaaaW.PrintWords Go.Proofs.YtlphnpinpflaaaaW.PrintLast
set_option linter.unusedVariables false
set_option linter.unusedSimpArgs false
def bestStep (s : LySt) (b : S_Play × Int) (p : S_Play) : S_Play × Int := if lyPointsF (lyDo s p) > b.2 then (p, lyPointsF (lyDo s p)) else b
def bestTo (s : LySt) (l : List S_Play) (i : Nat) : S_Play × Int := (l.take i).foldl (bestStep s) (⟨⟨0, 0⟩, 0⟩, -1)
def bestAns (s : LySt) (l : List S_Play) : Int × Int × Int × Int × Bool := if (bestTo s l l.length).2 < 0 then (0, 0, 0, 0, false) else ((bestTo s l l.length).1.f0.f0, (bestTo s l l.length).1.f0.f1, (bestTo s l l.length).1.f1, (bestTo s l l.length).2, true)
theorem bestTo_next (s : LySt) (l : List S_Play) (i : Nat) (h : i < l.length) : bestTo s l (i + 1) = bestStep s (bestTo s l i) (rd_Play l (i : Int)) := by
  unfold bestTo
  rw [List.take_succ_eq_append_getElem h, List.foldl_append]
  simp [rd_Play, h]
theorem can_lt {s : LySt} {p : S_Play} (hc : lyCan s p = true) : s.ti.length < 28 := by
  unfold lyCan at hc
  simp only [Bool.and_eq_true, Bool.not_eq_true', decide_eq_false_iff_not] at hc
  have := hc.1.2
  omega
theorem lyForF_len (s : LySt) (hand : List S_Tile) (har : s.ar.length ≤ 100) : (lyForF s hand).length ≤ 10000 := by
  have h1 := forTo_len s (sortT hand) har (sortT hand).length (Nat.le_refl _)
  have h2 := sortT_len hand
  have h3 : forTo s (sortT hand) (sortT hand).length = lyForF s hand := by unfold forTo lyForF; rw [List.take_length]
  rw [h3] at h1
  omega
theorem lyForF_can {s : LySt} {hand : List S_Tile} {p : S_Play} (h : p ∈ lyForF s hand) : lyCan s p = true := by
  unfold lyForF at h
  obtain ⟨t, _, h⟩ := List.mem_flatMap.1 h
  unfold forTile armsTo at h
  exact (List.mem_filter.1 h).2
theorem lyFor_ok (s : LySt) (hand : List S_Tile) (n : Nat) (hok : LyOk s n) (i : Nat) (h : i < (lyForF s hand).length) : lyCan s (rd_Play (lyForF s hand) (i : Int)) = true ∧ LyOk (lyDo s (rd_Play (lyForF s hand) (i : Int))) (n + 1) ∧ n + 1 ≤ 28 := by
  have hm : rd_Play (lyForF s hand) (i : Int) ∈ lyForF s hand := by unfold rd_Play; simp [h]
  have hc := lyForF_can hm
  refine ⟨hc, lyOk_next hok hc, ?_⟩
  have := can_lt hc
  have := hok.ti
  omega
end Go.Proofs.Ytlphnpinpflaaaa.Pure
