/- The statements' copying, counting and comparing of slices of plays. -/
import Derived.Test.YtddgfphbbkjmpaaDoorPEv
import Derived.Test.YtddgfphbbkjmpaaDoorG1
import Derived.Test.YtddgfphbbkjmpaaDoorG0
import Derived.Test.YtddgfphbbkjmpaaDoorG1
namespace Go.Proofs.YtddgfphbbkjmpaaDoor.Pure
open Go.RowKit Go.Proofs.YtddgfphbbkjmpaaDoor.Hd Go.Proofs.YtddgfphbbkjmpaaDoorW.PrintWords Go.Proofs.YtddgfphbbkjmpaaDoorW.PrintLast
set_option linter.unusedVariables false
set_option linter.unusedSimpArgs false
def cpP (l : List S_LPlay) : List S_Play := l.map fun t => ⟨⟨t.f0.f0, t.f0.f1⟩, t.f1⟩
theorem cpP_len (l : List S_LPlay) : (cpP l).length = l.length := by simp [cpP]
theorem rdLP_at {l : List S_LPlay} {i : Nat} (h : i < l.length) : rd_LPlay l (i : Int) = l[i] := by simp [rd_LPlay, h]
theorem cpP_at (l : List S_LPlay) (i : Nat) (h : i < (cpP l).length) : (cpP l)[i] = ⟨⟨(l[i]'(by rw [cpP_len] at h; exact h)).f0.f0, (l[i]'(by rw [cpP_len] at h; exact h)).f0.f1⟩, (l[i]'(by rw [cpP_len] at h; exact h)).f1⟩ := by simp [cpP]
theorem toPlayS_l0 (l : List S_LPlay) (hl : l.length ≤ 1048576) : ∀ (d i : Nat) (acc : List S_Play), i + d = l.length → acc.length = l.length → acc.take i = (cpP l).take i →
    Ev (fun k => laws_toPlayS.l0 k l acc (i : Int)) (cpP l) := by
  intro d
  induction d with
  | zero =>
    intro i acc hi ha ht
    refine Ev.succ ?_
    simp only [laws_toPlayS.l0]
    refine Ev.neg (by omega) (Ev.ret (take_all (by rw [cpP_len]; exact ha) ht (by rw [cpP_len]; omega)))
  | succ d ih =>
    intro i acc hi ha ht
    refine Ev.succ ?_
    simp only [laws_toPlayS.l0]
    have hlt : i < l.length := by omega
    have hlc : i < (cpP l).length := by rw [cpP_len]; exact hlt
    rw [w64' (m := ((i + 1 : Nat) : Int)) (by omega) (by omega) (by omega), rdLP_at hlt, Int.toNat_natCast]
    refine Ev.pos (by omega) (Ev.pos (by omega) (Ev.bs rfl (Ev.pos (by omega) ?_)))
    refine ih (i + 1) _ (by omega) (by rw [List.length_set]; exact ha) ?_
    have := set_take acc (cpP l) i (by rw [cpP_len]; exact ha) ht hlc
    rw [cpP_at l i hlc] at this
    exact this
theorem toPlayS_ev (l : List S_LPlay) (hl : l.length ≤ 1048576) : Ev (fun k => laws_toPlayS.f k l) (cpP l) := by
  unfold laws_toPlayS.f
  refine Ev.pos (by omega) (Ev.pos (by omega) ?_)
  exact toPlayS_l0 l hl l.length 0 _ (by omega) (by simp) (by simp)
theorem szPlayS_eq (l : List S_LPlay) (a : Int) (h0 : 0 ≤ a) (h1 : a ≤ 1048576) (hl : l.length ≤ 9223372036854775807) : laws_szPlayS.f l a = some (if a < l.length then -1 else a - l.length) := by
  unfold laws_szPlayS.f
  rw [w64' (n := a - (l.length : Int)) rfl (by omega) (by omega)]
  by_cases h : a < (l.length : Int)
  · rw [if_pos (by omega), if_pos h]
  · rw [if_neg (by omega), if_neg h]
theorem szPlayS_c (l : List S_LPlay) (a : Int) (h0 : 0 ≤ a) (h1 : a ≤ 1048576) (hl : l.length ≤ 9223372036854775807) : ∃ z : Int, laws_szPlayS.f l a = some z ∧ (0 ≤ z → l.length ≤ 1048576 ∧ z ≤ a) := by
  refine ⟨_, szPlayS_eq l a h0 h1 hl, ?_⟩
  split <;> intro h <;> omega
theorem eqPlay_eq (a b c : Int) : laws_eqPlay.f a b c a b c = some true := by
  unfold laws_eqPlay.f laws_eqTile.f
  simp
theorem eqPlayS_l0 (l : List S_Play) (hl : l.length ≤ 1048576) : ∀ (d i : Nat), i + d = l.length → Ev (fun k => laws_eqPlayS.l0 k l l (i : Int)) true := by
  intro d
  induction d with
  | zero =>
    intro i hi
    refine Ev.succ ?_
    simp only [laws_eqPlayS.l0]
    exact Ev.neg (by omega) (Ev.ret rfl)
  | succ d ih =>
    intro i hi
    refine Ev.succ ?_
    simp only [laws_eqPlayS.l0]
    rw [w64' (m := ((i + 1 : Nat) : Int)) (by omega) (by omega) (by omega)]
    refine Ev.pos (by omega) (Ev.pos (by omega) (Ev.pos (by omega) (Ev.bs (eqPlay_eq _ _ _) (Ev.pos rfl ?_))))
    exact ih (i + 1) (by omega)
theorem eqPlayS_ev (l : List S_Play) (hl : l.length ≤ 1048576) : Ev (fun k => laws_eqPlayS.f k l l) true := by
  unfold laws_eqPlayS.f
  exact Ev.pos rfl (eqPlayS_l0 l hl l.length 0 (by omega))
end Go.Proofs.YtddgfphbbkjmpaaDoor.Pure
