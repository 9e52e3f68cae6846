/- The tiles of a hand that another has, or lacks: the reference's tiThose. -/
import Derived.Test.YtjaojemmbeddfaaGreatPSet0
import Derived.Test.YtjaojemmbeddfaaGreatG2
namespace Go.Proofs.YtjaojemmbeddfaaGreat.Pure
open Go.RowKit Go.Proofs.YtjaojemmbeddfaaGreat.Hd Go.Proofs.YtjaojemmbeddfaaGreatW.PrintWords Go.Proofs.YtjaojemmbeddfaaGreatW.PrintLast
set_option linter.unusedVariables false
set_option linter.unusedSimpArgs false
theorem tiThose_l0 (b : List S_Tile) (hb : b.length ≤ 1048576) (inn : Bool) (l : List S_Tile) (hl : l.length ≤ 1048576) : ∀ (d i : Nat), i + d = l.length →
    Ev (fun k => spec_tiThose.l0 k b inn (keepT b inn (l.take i)) l (l.length : Int) (i : Int)) (keepT b inn l) := by
  intro d
  induction d with
  | zero =>
    intro i hi
    refine Ev.succ ?_
    simp only [spec_tiThose.l0]
    exact Ev.neg (by omega) (Ev.ret (by rw [List.take_of_length_le (by omega)]))
  | succ d ih =>
    intro i hi
    refine Ev.succ ?_
    have hlt : i < l.length := by omega
    have h2 := keepT_len b inn (l.take i)
    rw [List.length_take] at h2
    have hk := keepT_take b inn l i hlt
    have hh := ih (i + 1) (by omega)
    simp only [spec_tiThose.l0]
    rw [rdT_at hlt, w64' (n := (i : Int) + 1) (m := ((i + 1 : Nat) : Int)) (by omega) (by omega) (by omega)]
    refine Ev.pos (by omega) (Ev.pos (by omega) (Ev.pos (by omega) (Ev.bd (tiPlace_ev b (by omega) l[i]) ?_)))
    simp only [idx_dec]
    by_cases c : (decide (l[i] ∈ b) == inn) = true
    · rw [if_pos c] at hk
      refine Ev.pos c (Ev.pos (by omega) ?_)
      rw [hk] at hh
      exact hh
    · rw [if_neg c, List.append_nil] at hk
      rw [hk] at hh
      exact Ev.neg c hh
theorem tiThose_ev (a b : List S_Tile) (ha : a.length ≤ 1048576) (hb : b.length ≤ 1048576) (inn : Bool) : Ev (fun k => spec_tiThose.f k a b inn) (keepT b inn (sortT a)) := by
  unfold spec_tiThose.f
  have := sortT_len a
  exact Ev.bd (tiSort_ev a ha) (tiThose_l0 b hb inn (sortT a) (by omega) (sortT a).length 0 (by omega))
end Go.Proofs.YtjaojemmbeddfaaGreat.Pure
