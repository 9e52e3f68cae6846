/- impl.playsFor lists what the reference lists (draft). -/
import Derived.Test.YtlphnpinpflaaaaPPlaysFor
namespace Go.Proofs.Ytlphnpinpflaaaa.Pure
open Go.RowKit Go.Proofs.Ytlphnpinpflaaaa.Hd Go.Proofs.YtlphnpinpflaaaaW.PrintWords Go.Proofs.YtlphnpinpflaaaaW.PrintLast
set_option linter.unusedVariables false
set_option linter.unusedSimpArgs false
theorem playsFor_l0 (l : List S_Play) (s : LySt) (hf : lyReadF l = some s) (T : List S_Tile) (hT : T.length ≤ 100) (ti : List S_Tile) (sp : Int) (w0 w1 : Bool) : ∀ (d i : Nat), i + d = T.length → Ev (fun k => impl_playsFor.l0 k l (forTo s T i) T (T.length : Int) (i : Int) s.ar ti sp w0 w1) (forTo s T T.length) := by
  obtain ⟨hok, h28⟩ := lyOk_read hf
  have har := hok.ar
  intro d
  induction d with
  | zero =>
    intro i hi
    obtain rfl : i = T.length := by omega
    refine Ev.succ ?_
    simp only [impl_playsFor.l0]
    exact Ev.neg (by omega) (Ev.ret rfl)
  | succ d ih =>
    intro i hi
    refine Ev.succ ?_
    simp only [impl_playsFor.l0]
    have hfl := forTo_len s T (by omega) i (by omega)
    refine Ev.pos (by omega) (Ev.pos (by omega) (Ev.pos (by omega) ?_))
    have key : ∀ (d2 j : Nat), j + d2 = max 1 s.ar.length → Ev (fun k => impl_playsFor.l1 k l (forTo s T i ++ armsTo s (rd_Tile T (i : Int)) j) T (T.length : Int) (i : Int) (mx 1 (s.ar.length : Int)) (j : Int) s.ar ti sp w0 w1 (rd_Tile T (i : Int)).f0 (rd_Tile T (i : Int)).f1) (forTo s T T.length) := by
      intro d2
      induction d2 with
      | zero =>
        intro j hj
        refine Ev.succ ?_
        simp only [impl_playsFor.l1]
        rw [w64' (n := (i : Int) + 1) (m := ((i + 1 : Nat) : Int)) (by omega) (by omega) (by omega), mx_max]
        refine Ev.neg (by omega) ?_
        have h2 := ih (i + 1) (by omega)
        rw [forTo_next s T i (by omega)] at h2
        unfold forTile at h2
        rw [show max 1 s.ar.length = j by omega] at h2
        exact h2
      | succ d2 ih2 =>
        intro j hj
        have h2 := ih2 (j + 1) (by omega)
        rw [armsTo_next] at h2
        have hal := armsTo_len s (rd_Tile T (i : Int)) j
        refine Ev.succ ?_
        simp only [impl_playsFor.l1]
        rw [w64' (n := (j : Int) + 1) (m := ((j + 1 : Nat) : Int)) (by omega) (by omega) (by omega), mx_max]
        refine Ev.pos (by omega) (Ev.bs (a := l) (by unfold slices_Clone_impl_Play_impl_Play.f; simp; omega) (Ev.bs rfl (Ev.pos (by simp; omega) (Ev.bs (isSpread_snoc hf _) ?_))))
        cases hc : lyCan s ⟨rd_Tile T (i : Int), (j : Int)⟩ with
        | true =>
          rw [hc, if_pos rfl, ← List.append_assoc] at h2
          rw [mx_max] at h2
          exact Ev.pos rfl (Ev.bs rfl (Ev.pos (by simp; omega) h2))
        | false =>
          rw [hc, if_neg (by simp), List.append_nil] at h2
          rw [mx_max] at h2
          exact Ev.neg (by simp) h2
    have := key (max 1 s.ar.length) 0 (by omega)
    simpa [armsTo] using this
end Go.Proofs.Ytlphnpinpflaaaa.Pure
