/- The statements' copying, counting and comparing of games. -/
import Derived.Test.YtjaojemmbeddfaaGreatG2
import Derived.Test.YtjaojemmbeddfaaGreatG3
import Derived.Test.YtjaojemmbeddfaaGreatPEv
import Derived.Test.YtjaojemmbeddfaaGreatG0
import Derived.Test.YtjaojemmbeddfaaGreatPRdA
namespace Go.Proofs.YtjaojemmbeddfaaGreat.Pure
open Go.RowKit Go.Proofs.YtjaojemmbeddfaaGreat.Hd Go.Proofs.YtjaojemmbeddfaaGreatW.PrintWords Go.Proofs.YtjaojemmbeddfaaGreatW.PrintLast
set_option linter.unusedVariables false
set_option linter.unusedSimpArgs false
theorem eqTile_refl (x y : Int) : laws_eqTile.f x y x y = some true := by
  unfold laws_eqTile.f; rw [if_pos rfl, if_pos rfl]
theorem eqTileS_l0 (l : List S_Tile) (hl : l.length ≤ 35184372088832) : ∀ (d i : Nat), i + d = l.length → Ev (fun k => laws_eqTileS.l0 k l l (i : Int)) true := by
  intro d
  induction d with
  | zero =>
    intro i hi
    refine Ev.succ ?_
    simp only [laws_eqTileS.l0]
    exact Ev.neg (by omega) (Ev.ret rfl)
  | succ d ih =>
    intro i hi
    refine Ev.succ ?_
    simp only [laws_eqTileS.l0]
    refine Ev.pos (by omega) (Ev.pos (by omega) (Ev.pos (by omega) (Ev.bs (eqTile_refl _ _) (Ev.pos rfl ?_))))
    rw [w64' (m := ((i + 1 : Nat) : Int)) (by omega) (by omega) (by omega)]
    exact ih (i + 1) (by omega)
theorem eqTileS_ev (l : List S_Tile) (hl : l.length ≤ 35184372088832) : Ev (fun k => laws_eqTileS.f k l l) true := by
  unfold laws_eqTileS.f
  exact Ev.pos rfl (eqTileS_l0 l hl l.length 0 (by omega))
end Go.Proofs.YtjaojemmbeddfaaGreat.Pure
namespace Go.Proofs.YtjaojemmbeddfaaGreat.Pure
open Go.RowKit Go.Proofs.YtjaojemmbeddfaaGreat.Hd Go.Proofs.YtjaojemmbeddfaaGreatW.PrintWords Go.Proofs.YtjaojemmbeddfaaGreatW.PrintLast
set_option linter.unusedVariables false
set_option linter.unusedSimpArgs false
def cpT (l : List S_LTile) : List S_Tile := l.map fun t => ⟨t.f0, t.f1⟩
theorem cpT_len (l : List S_LTile) : (cpT l).length = l.length := by simp [cpT]
theorem rdL_at {l : List S_LTile} {i : Nat} (h : i < l.length) : rd_LTile l (i : Int) = l[i] := by simp [rd_LTile, h]
theorem cpT_at (l : List S_LTile) (i : Nat) (h : i < (cpT l).length) : (cpT l)[i] = ⟨(l[i]'(by rw [cpT_len] at h; exact h)).f0, (l[i]'(by rw [cpT_len] at h; exact h)).f1⟩ := by simp [cpT]
theorem toTileS_l0 (l : List S_LTile) (hl : l.length ≤ 1048576) : ∀ (d i : Nat) (acc : List S_Tile), i + d = l.length → acc.length = l.length → acc.take i = (cpT l).take i →
    Ev (fun k => laws_toTileS.l0 k l acc (i : Int)) (cpT l) := by
  intro d
  induction d with
  | zero =>
    intro i acc hi ha ht
    refine Ev.succ ?_
    simp only [laws_toTileS.l0]
    refine Ev.neg (by omega) (Ev.ret (take_all (by rw [cpT_len]; exact ha) ht (by rw [cpT_len]; omega)))
  | succ d ih =>
    intro i acc hi ha ht
    refine Ev.succ ?_
    simp only [laws_toTileS.l0]
    have hlt : i < l.length := by omega
    have hlc : i < (cpT l).length := by rw [cpT_len]; exact hlt
    rw [w64' (m := ((i + 1 : Nat) : Int)) (by omega) (by omega) (by omega), rdL_at hlt, Int.toNat_natCast]
    refine Ev.pos (by omega) (Ev.pos (by omega) (Ev.bs rfl (Ev.pos (by omega) ?_)))
    refine ih (i + 1) _ (by omega) (by rw [List.length_set]; exact ha) ?_
    have := set_take acc (cpT l) i (by rw [cpT_len]; exact ha) ht hlc
    rw [cpT_at l i hlc] at this
    exact this
theorem toTileS_ev (l : List S_LTile) (hl : l.length ≤ 1048576) : Ev (fun k => laws_toTileS.f k l) (cpT l) := by
  unfold laws_toTileS.f
  refine Ev.pos (by omega) (Ev.pos (by omega) ?_)
  exact toTileS_l0 l hl l.length 0 _ (by omega) (by simp) (by simp)
theorem szTileS_eq (l : List S_LTile) (a : Int) (h0 : 0 ≤ a) (h1 : a ≤ 1048576) (hl : l.length ≤ 9223372036854775807) : laws_szTileS.f l a = some (if a < l.length then -1 else a - l.length) := by
  unfold laws_szTileS.f
  rw [w64' (n := a - (l.length : Int)) rfl (by omega) (by omega)]
  by_cases h : a < (l.length : Int)
  · rw [if_pos (by omega), if_pos h]
  · rw [if_neg (by omega), if_neg h]
end Go.Proofs.YtjaojemmbeddfaaGreat.Pure
namespace Go.Proofs.YtjaojemmbeddfaaGreat.Pure
open Go.RowKit Go.Proofs.YtjaojemmbeddfaaGreat.Hd Go.Proofs.YtjaojemmbeddfaaGreatW.PrintWords Go.Proofs.YtjaojemmbeddfaaGreatW.PrintLast
set_option linter.unusedVariables false
set_option linter.unusedSimpArgs false
theorem eqIntS_l0 (l : List Int) (hl : l.length ≤ 35184372088832) : ∀ (d i : Nat), i + d = l.length → Ev (fun k => laws_eqIntS.l0 k l l (i : Int)) true := by
  intro d
  induction d with
  | zero =>
    intro i hi
    refine Ev.succ ?_
    simp only [laws_eqIntS.l0]
    exact Ev.neg (by omega) (Ev.ret rfl)
  | succ d ih =>
    intro i hi
    refine Ev.succ ?_
    simp only [laws_eqIntS.l0]
    refine Ev.pos (by omega) (Ev.pos (by omega) (Ev.pos (by omega) (Ev.pos (by trivial) ?_)))
    rw [w64' (m := ((i + 1 : Nat) : Int)) (by omega) (by omega) (by omega)]
    exact ih (i + 1) (by omega)
theorem eqIntS_ev (l : List Int) (hl : l.length ≤ 35184372088832) : Ev (fun k => laws_eqIntS.f k l l) true := by
  unfold laws_eqIntS.f
  exact Ev.pos rfl (eqIntS_l0 l hl l.length 0 (by omega))
end Go.Proofs.YtjaojemmbeddfaaGreat.Pure
namespace Go.Proofs.YtjaojemmbeddfaaGreat.Pure
open Go.RowKit Go.Proofs.YtjaojemmbeddfaaGreat.Hd Go.Proofs.YtjaojemmbeddfaaGreatW.PrintWords Go.Proofs.YtjaojemmbeddfaaGreatW.PrintLast
set_option linter.unusedVariables false
set_option linter.unusedSimpArgs false
theorem toIntS_l0 (l : List Int) (hl : l.length ≤ 35184372088832) : ∀ (d i : Nat) (acc : List Int), i + d = l.length → acc.length = l.length → acc.take i = l.take i →
    Ev (fun k => laws_toIntS.l0 k l acc (i : Int)) l := by
  intro d
  induction d with
  | zero =>
    intro i acc hi ha ht
    refine Ev.succ ?_
    simp only [laws_toIntS.l0]
    refine Ev.neg (by omega) (Ev.ret (take_all ha ht (by omega)))
  | succ d ih =>
    intro i acc hi ha ht
    refine Ev.succ ?_
    simp only [laws_toIntS.l0]
    refine Ev.pos (by omega) (Ev.pos (by omega) (Ev.pos (by omega) ?_))
    have hlt : i < l.length := by omega
    rw [w64' (m := ((i + 1 : Nat) : Int)) (by omega) (by omega) (by omega), rd_at hlt, Int.toNat_natCast]
    exact ih (i + 1) _ (by omega) (by rw [List.length_set]; exact ha) (set_take acc l i ha ht hlt)
theorem toIntS_ev (l : List Int) (hl : l.length ≤ 35184372088832) : Ev (fun k => laws_toIntS.f k l) l := by
  unfold laws_toIntS.f
  refine Ev.pos (by omega) (Ev.pos (by omega) ?_)
  exact toIntS_l0 l hl l.length 0 _ (by omega) (by simp) (by simp)
end Go.Proofs.YtjaojemmbeddfaaGreat.Pure
namespace Go.Proofs.YtjaojemmbeddfaaGreat.Pure
open Go.RowKit Go.Proofs.YtjaojemmbeddfaaGreat.Hd Go.Proofs.YtjaojemmbeddfaaGreatW.PrintWords Go.Proofs.YtjaojemmbeddfaaGreatW.PrintLast
set_option linter.unusedVariables false
set_option linter.unusedSimpArgs false
theorem szIntS_eq (l : List Int) (a : Int) (h0 : 0 ≤ a) (h1 : a ≤ 1048576) (hl : l.length ≤ 9223372036854775807) : laws_szIntS.f l a = some (if a < l.length then -1 else a - l.length) := by
  unfold laws_szIntS.f
  rw [w64' (n := a - (l.length : Int)) rfl (by omega) (by omega)]
  by_cases h : a < (l.length : Int)
  · rw [if_pos (by omega), if_pos h]
  · rw [if_neg (by omega), if_neg h]
end Go.Proofs.YtjaojemmbeddfaaGreat.Pure
namespace Go.Proofs.YtjaojemmbeddfaaGreat.Pure
open Go.RowKit Go.Proofs.YtjaojemmbeddfaaGreat.Hd Go.Proofs.YtjaojemmbeddfaaGreatW.PrintWords Go.Proofs.YtjaojemmbeddfaaGreatW.PrintLast
set_option linter.unusedVariables false
set_option linter.unusedSimpArgs false
theorem szGame_eq (f s : List S_LTile) (r : List Int) (t p : Int) (hf : f.length ≤ 9223372036854775807) (hs : s.length ≤ 9223372036854775807) (hr : r.length ≤ 9223372036854775807) :
    ∃ z : Int, laws_szGame.f f s r t p 1048576 = some z ∧ (0 ≤ z → f.length ≤ 1048576 ∧ s.length ≤ 1048576 ∧ r.length ≤ 1048576 ∧ z ≤ 1048576) := by
  unfold laws_szGame.f
  rw [szTileS_eq f _ (by omega) (by omega) hf, Option.bind_some]
  by_cases h1 : (1048576 : Int) < f.length
  · refine ⟨-1, by rw [if_pos h1, if_pos (by omega)], fun h => by omega⟩
  · rw [if_neg h1, if_neg (by omega), szTileS_eq s _ (by omega) (by omega) hs, Option.bind_some]
    by_cases h2 : (1048576 : Int) - f.length < s.length
    · refine ⟨-1, by rw [if_pos h2, if_pos (by omega)], fun h => by omega⟩
    · rw [if_neg h2, if_neg (by omega), szIntS_eq r _ (by omega) (by omega) hr, Option.bind_some]
      by_cases h3 : (1048576 : Int) - f.length - s.length < r.length
      · refine ⟨-1, by rw [if_pos h3, if_pos (by omega)], fun h => by omega⟩
      · rw [if_neg h3, if_neg (by omega)]
        exact ⟨_, rfl, fun _ => by omega⟩
theorem toGame_ev (f s : List S_LTile) (r : List Int) (t p : Int) (hf : f.length ≤ 1048576) (hs : s.length ≤ 1048576) (hr : r.length ≤ 1048576) : Ev (fun k => laws_toGame.f k f s r t p) (cpT f, cpT s, r, t, p) := by
  unfold laws_toGame.f
  exact Ev.bd (toTileS_ev f hf) (Ev.bd (toTileS_ev s hs) (Ev.bd (toIntS_ev r (by omega)) (Ev.ret rfl)))
theorem eqGame_ev (f s : List S_Tile) (r : List Int) (t p : Int) (hf : f.length ≤ 4000000) (hs : s.length ≤ 4000000) (hr : r.length ≤ 4000000) : Ev (fun k => laws_eqGame.f k f s r t p f s r t p) true := by
  unfold laws_eqGame.f
  exact Ev.bd (eqTileS_ev f (by omega)) (Ev.pos rfl (Ev.bd (eqTileS_ev s (by omega)) (Ev.pos rfl (Ev.bd (eqIntS_ev r (by omega)) (Ev.pos rfl (Ev.pos rfl (Ev.pos rfl (Ev.ret rfl))))))))
end Go.Proofs.YtjaojemmbeddfaaGreat.Pure
