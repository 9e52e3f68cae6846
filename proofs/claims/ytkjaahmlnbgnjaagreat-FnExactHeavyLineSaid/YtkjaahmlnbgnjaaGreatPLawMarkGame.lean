/- The statements' markers over games. -/
import Derived.Test.YtkjaahmlnbgnjaaGreatG0
import Derived.Test.YtkjaahmlnbgnjaaGreatG2
import Derived.Test.YtkjaahmlnbgnjaaGreatG3
import Derived.Test.YtkjaahmlnbgnjaaGreatPEv
import Derived.Test.YtkjaahmlnbgnjaaGreatPTile
namespace Go.Proofs.YtkjaahmlnbgnjaaGreat.Pure
open Go.RowKit Go.Proofs.YtkjaahmlnbgnjaaGreat.Hd Go.Proofs.YtkjaahmlnbgnjaaGreatW.PrintWords Go.Proofs.YtkjaahmlnbgnjaaGreatW.PrintLast
set_option linter.unusedVariables false
set_option linter.unusedSimpArgs false
theorem toIntS_l0 (l : List Int) (hl : l.length ≤ 35184372088832) : ∀ (d i : Nat) (acc : List Int), i + d = l.length → acc.length = l.length → acc.take i = l.take i →
    Ev (fun k => laws_toIntS.l0 k l acc (i : Int)) l := by
  intro d
  induction d with
  | zero =>
    intro i acc hi ha ht
    refine Ev.succ ?_
    simp only [laws_toIntS.l0]
    refine Ev.neg (by omega) (Ev.ret (take_all ha ht (by omega)))
  | succ d ih =>
    intro i acc hi ha ht
    refine Ev.succ ?_
    simp only [laws_toIntS.l0]
    refine Ev.pos (by omega) (Ev.pos (by omega) (Ev.pos (by omega) ?_))
    have hlt : i < l.length := by omega
    rw [w64' (m := ((i + 1 : Nat) : Int)) (by omega) (by omega) (by omega), rd_at hlt, Int.toNat_natCast]
    exact ih (i + 1) _ (by omega) (by rw [List.length_set]; exact ha) (set_take acc l i ha ht hlt)
theorem toIntS_ev (l : List Int) (hl : l.length ≤ 35184372088832) : Ev (fun k => laws_toIntS.f k l) l := by
  unfold laws_toIntS.f
  refine Ev.pos (by omega) (Ev.pos (by omega) ?_)
  exact toIntS_l0 l hl l.length 0 _ (by omega) (by simp) (by simp)
theorem eqIntS_l0 (l : List Int) (hl : l.length ≤ 35184372088832) : ∀ (d i : Nat), i + d = l.length → Ev (fun k => laws_eqIntS.l0 k l l (i : Int)) true := by
  intro d
  induction d with
  | zero =>
    intro i hi
    refine Ev.succ ?_
    simp only [laws_eqIntS.l0]
    exact Ev.neg (by omega) (Ev.ret rfl)
  | succ d ih =>
    intro i hi
    refine Ev.succ ?_
    simp only [laws_eqIntS.l0]
    refine Ev.pos (by omega) (Ev.pos (by omega) (Ev.pos (by omega) (Ev.pos (by trivial) ?_)))
    rw [w64' (m := ((i + 1 : Nat) : Int)) (by omega) (by omega) (by omega)]
    exact ih (i + 1) (by omega)
theorem eqIntS_ev (l : List Int) (hl : l.length ≤ 35184372088832) : Ev (fun k => laws_eqIntS.f k l l) true := by
  unfold laws_eqIntS.f
  exact Ev.pos rfl (eqIntS_l0 l hl l.length 0 (by omega))
end Go.Proofs.YtkjaahmlnbgnjaaGreat.Pure
namespace Go.Proofs.YtkjaahmlnbgnjaaGreat.Pure
open Go.RowKit Go.Proofs.YtkjaahmlnbgnjaaGreat.Hd Go.Proofs.YtkjaahmlnbgnjaaGreatW.PrintWords Go.Proofs.YtkjaahmlnbgnjaaGreatW.PrintLast
set_option linter.unusedVariables false
set_option linter.unusedSimpArgs false
theorem eqTile_refl (x y : Int) : laws_eqTile.f x y x y = some true := by
  unfold laws_eqTile.f; rw [if_pos rfl, if_pos rfl]
theorem eqTileS_l0 (l : List S_Tile) (hl : l.length ≤ 35184372088832) : ∀ (d i : Nat), i + d = l.length → Ev (fun k => laws_eqTileS.l0 k l l (i : Int)) true := by
  intro d
  induction d with
  | zero =>
    intro i hi
    refine Ev.succ ?_
    simp only [laws_eqTileS.l0]
    exact Ev.neg (by omega) (Ev.ret rfl)
  | succ d ih =>
    intro i hi
    refine Ev.succ ?_
    simp only [laws_eqTileS.l0]
    refine Ev.pos (by omega) (Ev.pos (by omega) (Ev.pos (by omega) (Ev.bs (eqTile_refl _ _) (Ev.pos rfl ?_))))
    rw [w64' (m := ((i + 1 : Nat) : Int)) (by omega) (by omega) (by omega)]
    exact ih (i + 1) (by omega)
theorem eqTileS_ev (l : List S_Tile) (hl : l.length ≤ 35184372088832) : Ev (fun k => laws_eqTileS.f k l l) true := by
  unfold laws_eqTileS.f
  exact Ev.pos rfl (eqTileS_l0 l hl l.length 0 (by omega))
end Go.Proofs.YtkjaahmlnbgnjaaGreat.Pure
namespace Go.Proofs.YtkjaahmlnbgnjaaGreat.Pure
open Go.RowKit Go.Proofs.YtkjaahmlnbgnjaaGreat.Hd Go.Proofs.YtkjaahmlnbgnjaaGreatW.PrintWords Go.Proofs.YtkjaahmlnbgnjaaGreatW.PrintLast
set_option linter.unusedVariables false
set_option linter.unusedSimpArgs false
def cpT (l : List S_LTile) : List S_Tile := l.map fun t => ⟨t.f0, t.f1⟩
theorem cpT_len (l : List S_LTile) : (cpT l).length = l.length := by simp [cpT]
theorem rdL_at {l : List S_LTile} {i : Nat} (h : i < l.length) : rd_LTile l (i : Int) = l[i] := by simp [rd_LTile, h]
theorem cpT_at (l : List S_LTile) (i : Nat) (h : i < (cpT l).length) : (cpT l)[i] = ⟨(l[i]'(by rw [cpT_len] at h; exact h)).f0, (l[i]'(by rw [cpT_len] at h; exact h)).f1⟩ := by simp [cpT]
theorem toTileS_l0 (l : List S_LTile) (hl : l.length ≤ 1048576) : ∀ (d i : Nat) (acc : List S_Tile), i + d = l.length → acc.length = l.length → acc.take i = (cpT l).take i →
    Ev (fun k => laws_toTileS.l0 k l acc (i : Int)) (cpT l) := by
  intro d
  induction d with
  | zero =>
    intro i acc hi ha ht
    refine Ev.succ ?_
    simp only [laws_toTileS.l0]
    refine Ev.neg (by omega) (Ev.ret (take_all (by rw [cpT_len]; exact ha) ht (by rw [cpT_len]; omega)))
  | succ d ih =>
    intro i acc hi ha ht
    refine Ev.succ ?_
    simp only [laws_toTileS.l0]
    have hlt : i < l.length := by omega
    have hlc : i < (cpT l).length := by rw [cpT_len]; exact hlt
    rw [w64' (m := ((i + 1 : Nat) : Int)) (by omega) (by omega) (by omega), rdL_at hlt, Int.toNat_natCast]
    refine Ev.pos (by omega) (Ev.pos (by omega) (Ev.bs rfl (Ev.pos (by omega) ?_)))
    refine ih (i + 1) _ (by omega) (by rw [List.length_set]; exact ha) ?_
    have := set_take acc (cpT l) i (by rw [cpT_len]; exact ha) ht hlc
    rw [cpT_at l i hlc] at this
    exact this
theorem toTileS_ev (l : List S_LTile) (hl : l.length ≤ 1048576) : Ev (fun k => laws_toTileS.f k l) (cpT l) := by
  unfold laws_toTileS.f
  refine Ev.pos (by omega) (Ev.pos (by omega) ?_)
  exact toTileS_l0 l hl l.length 0 _ (by omega) (by simp) (by simp)
theorem szTileS_eq (l : List S_LTile) (a : Int) (h0 : 0 ≤ a) (h1 : a ≤ 1048576) (hl : l.length ≤ 9223372036854775807) : laws_szTileS.f l a = some (if a < l.length then -1 else a - l.length) := by
  unfold laws_szTileS.f
  rw [w64' (n := a - (l.length : Int)) rfl (by omega) (by omega)]
  by_cases h : a < (l.length : Int)
  · rw [if_pos (by omega), if_pos h]
  · rw [if_neg (by omega), if_neg h]
end Go.Proofs.YtkjaahmlnbgnjaaGreat.Pure
namespace Go.Proofs.YtkjaahmlnbgnjaaGreat.Pure
open Go.RowKit Go.Proofs.YtkjaahmlnbgnjaaGreat.Hd Go.Proofs.YtkjaahmlnbgnjaaGreatW.PrintWords Go.Proofs.YtkjaahmlnbgnjaaGreatW.PrintLast
set_option linter.unusedVariables false
set_option linter.unusedSimpArgs false
theorem szIntS_eq (l : List Int) (a : Int) (h0 : 0 ≤ a) (h1 : a ≤ 1048576) (hl : l.length ≤ 9223372036854775807) : laws_szIntS.f l a = some (if a < l.length then -1 else a - l.length) := by
  unfold laws_szIntS.f
  rw [w64' (n := a - (l.length : Int)) rfl (by omega) (by omega)]
  by_cases h : a < (l.length : Int)
  · rw [if_pos (by omega), if_pos h]
  · rw [if_neg (by omega), if_neg h]
end Go.Proofs.YtkjaahmlnbgnjaaGreat.Pure
namespace Go.Proofs.YtkjaahmlnbgnjaaGreat.Pure
open Go.RowKit Go.Proofs.YtkjaahmlnbgnjaaGreat.Hd Go.Proofs.YtkjaahmlnbgnjaaGreatW.PrintWords Go.Proofs.YtkjaahmlnbgnjaaGreatW.PrintLast
set_option linter.unusedVariables false
set_option linter.unusedSimpArgs false
theorem szGame_eq (f s : List S_LTile) (r : List Int) (t p : Int) (hf : f.length ≤ 9223372036854775807) (hs : s.length ≤ 9223372036854775807) (hr : r.length ≤ 9223372036854775807) :
    ∃ z : Int, laws_szGame.f f s r t p 1048576 = some z ∧ (0 ≤ z → f.length ≤ 1048576 ∧ s.length ≤ 1048576 ∧ r.length ≤ 1048576 ∧ z ≤ 1048576) := by
  unfold laws_szGame.f
  rw [szTileS_eq f _ (by omega) (by omega) hf, Option.bind_some]
  by_cases h1 : (1048576 : Int) < f.length
  · refine ⟨-1, by rw [if_pos h1, if_pos (by omega)], fun h => by omega⟩
  · rw [if_neg h1, if_neg (by omega), szTileS_eq s _ (by omega) (by omega) hs, Option.bind_some]
    by_cases h2 : (1048576 : Int) - f.length < s.length
    · refine ⟨-1, by rw [if_pos h2, if_pos (by omega)], fun h => by omega⟩
    · rw [if_neg h2, if_neg (by omega), szIntS_eq r _ (by omega) (by omega) hr, Option.bind_some]
      by_cases h3 : (1048576 : Int) - f.length - s.length < r.length
      · refine ⟨-1, by rw [if_pos h3, if_pos (by omega)], fun h => by omega⟩
      · rw [if_neg h3, if_neg (by omega)]
        exact ⟨_, rfl, fun _ => by omega⟩
theorem toGame_ev (f s : List S_LTile) (r : List Int) (t p : Int) (hf : f.length ≤ 1048576) (hs : s.length ≤ 1048576) (hr : r.length ≤ 1048576) : Ev (fun k => laws_toGame.f k f s r t p) (cpT f, cpT s, r, t, p) := by
  unfold laws_toGame.f
  exact Ev.bd (toTileS_ev f hf) (Ev.bd (toTileS_ev s hs) (Ev.bd (toIntS_ev r (by omega)) (Ev.ret rfl)))
theorem eqGame_ev (f s : List S_Tile) (r : List Int) (t p : Int) (hf : f.length ≤ 4000000) (hs : s.length ≤ 4000000) (hr : r.length ≤ 4000000) : Ev (fun k => laws_eqGame.f k f s r t p f s r t p) true := by
  unfold laws_eqGame.f
  exact Ev.bd (eqTileS_ev f (by omega)) (Ev.pos rfl (Ev.bd (eqTileS_ev s (by omega)) (Ev.pos rfl (Ev.bd (eqIntS_ev r (by omega)) (Ev.pos rfl (Ev.pos rfl (Ev.pos rfl (Ev.ret rfl))))))))
end Go.Proofs.YtkjaahmlnbgnjaaGreat.Pure
namespace Go.Proofs.YtkjaahmlnbgnjaaGreat.Pure
open Go.RowKit Go.Proofs.YtkjaahmlnbgnjaaGreat.Hd Go.Proofs.YtkjaahmlnbgnjaaGreatW.PrintWords Go.Proofs.YtkjaahmlnbgnjaaGreatW.PrintLast
set_option linter.unusedVariables false
set_option linter.unusedSimpArgs false
def marksT : Nat → Int → List S_Tile
  | 0, _ => []
  | n + 1, a => ⟨a, a + 1⟩ :: marksT n (a + 2)
theorem marksT_length (n : Nat) (a : Int) : (marksT n a).length = n := by
  induction n generalizing a with
  | zero => rfl
  | succ n ih => simp [marksT, ih]
theorem marksT_get (n : Nat) (a : Int) (i : Nat) (h : i < n) : (marksT n a)[i]? = some ⟨a + 2 * i, a + 2 * i + 1⟩ := by
  induction n generalizing a i with
  | zero => omega
  | succ n ih =>
    cases i with
    | zero => simp [marksT]
    | succ i =>
      simp only [marksT, List.getElem?_cons_succ]; rw [ih _ _ (by omega)]
      have e : a + 2 + 2 * (i : Int) = a + 2 * ((i + 1 : Nat) : Int) := by omega
      rw [e]
theorem marksT_at (n : Nat) (a : Int) (i : Nat) (h : i < (marksT n a).length) : (marksT n a)[i] = ⟨a + 2 * i, a + 2 * i + 1⟩ := by
  have := marksT_get n a i (by rw [marksT_length] at h; exact h)
  rw [List.getElem?_eq_getElem h] at this
  exact Option.some.inj this
theorem markTileS_l0 (n : Nat) (a : Int) (hn : n ≤ 35184372088832) (ha0 : 0 ≤ a) (ha : a ≤ 35184372088832) : ∀ (d i : Nat) (acc : List S_Tile), i + d = n → acc.length = n → acc.take i = (marksT n a).take i →
    Ev (fun k => laws_markTileS.l0 k acc (a + 2 * i) (i : Int)) (a + 2 * (n : Int), marksT n a) := by
  intro d
  induction d with
  | zero =>
    intro i acc hi hl ht
    refine Ev.succ ?_
    simp only [laws_markTileS.l0]
    refine Ev.neg (by omega) (Ev.ret ?_)
    rw [take_all (by rw [marksT_length]; exact hl) ht (by rw [marksT_length]; omega), show i = n by omega]
  | succ d ih =>
    intro i acc hi hl ht
    refine Ev.succ ?_
    simp only [laws_markTileS.l0]
    have hlt : i < (marksT n a).length := by rw [marksT_length]; omega
    refine Ev.pos (by omega) (Ev.pos (by omega) (Ev.bs rfl ?_))
    rw [w64' (n := (i : Int) + 1) (m := ((i + 1 : Nat) : Int)) (by omega) (by omega) (by omega), w64' (n := a + 2 * (i : Int) + 1) (m := a + 2 * (i : Int) + 1) (by omega) (by omega) (by omega), w64' (n := a + 2 * (i : Int) + 1 + 1) (m := a + 2 * ((i + 1 : Nat) : Int)) (by omega) (by omega) (by omega)]
    rw [rdT_at (show i < acc.length by omega), rdT_at (show i < (acc.set (i : Int).toNat _).length by rw [List.length_set]; omega)]
    simp only [Int.toNat_natCast, List.getElem_set_self, List.set_set]
    refine ih (i + 1) _ (by omega) (by rw [List.length_set]; exact hl) ?_
    rw [← marksT_at n a i hlt]
    exact set_take acc _ i (by rw [marksT_length]; exact hl) ht hlt
theorem markTileS_ev (l : List S_Tile) (a : Int) (hn : l.length ≤ 35184372088832) (ha0 : 0 ≤ a) (ha : a ≤ 35184372088832) : Ev (fun k => laws_markTileS.f k l a) (a + 2 * (l.length : Int), marksT l.length a) := by
  unfold laws_markTileS.f
  have h := markTileS_l0 l.length a hn ha0 ha l.length 0 l (by omega) rfl (by simp)
  rw [show a + 2 * ((0 : Nat) : Int) = a by omega] at h
  exact h
end Go.Proofs.YtkjaahmlnbgnjaaGreat.Pure
namespace Go.Proofs.YtkjaahmlnbgnjaaGreat.Pure
open Go.RowKit Go.Proofs.YtkjaahmlnbgnjaaGreat.Hd Go.Proofs.YtkjaahmlnbgnjaaGreatW.PrintWords Go.Proofs.YtkjaahmlnbgnjaaGreatW.PrintLast
set_option linter.unusedVariables false
set_option linter.unusedSimpArgs false
theorem marks_at (n : Nat) (a : Int) (i : Nat) (h : i < (marks n a).length) : (marks n a)[i] = a + i := by
  have := marks_get n a i (by rw [marks_length] at h; exact h)
  rw [List.getElem?_eq_getElem h] at this
  exact Option.some.inj this
theorem markIntS_l0 (n : Nat) (a : Int) (hn : n ≤ 35184372088832) (ha0 : 0 ≤ a) (ha : a ≤ 35184372088832) : ∀ (d i : Nat) (acc : List Int), i + d = n → acc.length = n → acc.take i = (marks n a).take i →
    Ev (fun k => laws_markIntS.l0 k acc (a + i) (i : Int)) (a + n, marks n a) := by
  intro d
  induction d with
  | zero =>
    intro i acc hi hl ht
    refine Ev.succ ?_
    simp only [laws_markIntS.l0]
    refine Ev.neg (by omega) (Ev.ret ?_)
    rw [take_all (by rw [marks_length]; exact hl) ht (by rw [marks_length]; omega), show i = n by omega]
  | succ d ih =>
    intro i acc hi hl ht
    refine Ev.succ ?_
    simp only [laws_markIntS.l0]
    have hlt : i < (marks n a).length := by rw [marks_length]; omega
    refine Ev.pos (by omega) (Ev.pos (by omega) ?_)
    rw [w64' (n := (i : Int) + 1) (m := ((i + 1 : Nat) : Int)) (by omega) (by omega) (by omega), w64' (n := a + (i : Int) + 1) (m := a + ((i + 1 : Nat) : Int)) (by omega) (by omega) (by omega), Int.toNat_natCast]
    refine ih (i + 1) _ (by omega) (by rw [List.length_set]; exact hl) ?_
    rw [← marks_at n a i hlt]
    exact set_take acc _ i (by rw [marks_length]; exact hl) ht hlt
theorem markIntS_ev (l : List Int) (a : Int) (hn : l.length ≤ 35184372088832) (ha0 : 0 ≤ a) (ha : a ≤ 35184372088832) : Ev (fun k => laws_markIntS.f k l a) (a + (l.length : Int), marks l.length a) := by
  unfold laws_markIntS.f
  have h := markIntS_l0 l.length a hn ha0 ha l.length 0 l (by omega) rfl (by simp)
  rw [show a + ((0 : Nat) : Int) = a by omega] at h
  exact h
end Go.Proofs.YtkjaahmlnbgnjaaGreat.Pure
namespace Go.Proofs.YtkjaahmlnbgnjaaGreat.Pure
open Go.RowKit Go.Proofs.YtkjaahmlnbgnjaaGreat.Hd Go.Proofs.YtkjaahmlnbgnjaaGreatW.PrintWords Go.Proofs.YtkjaahmlnbgnjaaGreatW.PrintLast
set_option linter.unusedVariables false
set_option linter.unusedSimpArgs false
theorem markGame_ev (f s : List S_Tile) (r : List Int) (t p a : Int) (hf : f.length ≤ 4000000) (hs : s.length ≤ 4000000) (hr : r.length ≤ 4000000) (h0 : 0 ≤ a) (h1 : a ≤ 1048576) :
    Ev (fun k => laws_markGame.f k f s r t p a) (a + 2 * (f.length : Int) + 2 * (s.length : Int) + (r.length : Int), marksT f.length a, marksT s.length (a + 2 * (f.length : Int)), marks r.length (a + 2 * (f.length : Int) + 2 * (s.length : Int))) := by
  unfold laws_markGame.f
  exact Ev.bd (markTileS_ev f a (by omega) (by omega) (by omega)) (Ev.bd (markTileS_ev s (a + 2 * (f.length : Int)) (by omega) (by omega) (by omega)) (Ev.bd (markIntS_ev r (a + 2 * (f.length : Int) + 2 * (s.length : Int)) (by omega) (by omega) (by omega)) (Ev.ret rfl)))
end Go.Proofs.YtkjaahmlnbgnjaaGreat.Pure
