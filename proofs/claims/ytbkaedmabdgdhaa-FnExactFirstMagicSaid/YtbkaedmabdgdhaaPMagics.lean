/- What CountMagic and FirstMagic answer, the program's and the reference's. -/
import Derived.Test.YtbkaedmabdgdhaaG3
import Derived.Test.YtbkaedmabdgdhaaMMgX
import Derived.Test.YtbkaedmabdgdhaaMMgD
import Derived.Test.YtbkaedmabdgdhaaMMgB
import Derived.Test.YtbkaedmabdgdhaaPMgB
namespace Go.Proofs.Ytbkaedmabdgdhaa.Pure
open Go.RowKit Go.Proofs.Ytbkaedmabdgdhaa.Hd Go.Proofs.YtbkaedmabdgdhaaW.PrintWords Go.Proofs.YtbkaedmabdgdhaaW.PrintLast
set_option linter.unusedVariables false
set_option linter.unusedSimpArgs false
def mgL (R wd : Nat) (l : List Int) : Bool := magicB (chunksL R wd l)
theorem foldM_count {R wd : Nat} : ∀ (L : List (List Int)) (s : List Int × Nat), (L.foldl (stepM R wd) s).2 = s.2 + (L.filter (mgL R wd)).length
  | [], s => by simp
  | w :: L, s => by
    rw [List.foldl_cons, foldM_count L, List.filter_cons]
    unfold stepM mgL
    by_cases h : magicB (chunksL R wd w) = true
    · rw [if_pos h, if_pos h]
      split <;> simp <;> omega
    · rw [if_neg h, if_neg h]
theorem foldF_count {R wd : Nat} : ∀ (L : List (List Int)) (s : List (List Int) × Nat), (L.foldl (stepF R wd) s).2 = s.2 + (L.filter (mgL R wd)).length
  | [], s => by simp
  | w :: L, s => by
    rw [List.foldl_cons, foldF_count L, List.filter_cons]
    unfold stepF mgL
    by_cases h : magicB (chunksL R wd w) = true
    · rw [if_pos h, if_pos h]
      split <;> simp <;> omega
    · rw [if_neg h, if_neg h]
theorem foldF_keep {R wd : Nat} : ∀ (L : List (List Int)) (s : List (List Int) × Nat), s.2 ≠ 0 → (L.foldl (stepF R wd) s).1 = s.1
  | [], s, _ => rfl
  | w :: L, s, h => by
    rw [List.foldl_cons]
    have e : (stepF R wd s w).1 = s.1 ∧ (stepF R wd s w).2 ≠ 0 := by
      unfold stepF
      by_cases q : magicB (chunksL R wd w) = true
      · rw [if_pos q, if_neg h]; exact ⟨rfl, by simp⟩
      · rw [if_neg q]; exact ⟨rfl, h⟩
    rw [foldF_keep L _ e.2, e.1]
theorem foldF_first {R wd : Nat} : ∀ (L : List (List Int)) (f : List (List Int)) (x : List Int) (M : List (List Int)), L.filter (mgL R wd) = x :: M → (L.foldl (stepF R wd) (f, 0)).1 = chunksL R wd x
  | [], _, _, _, h => by simp at h
  | w :: L, f, x, M, h => by
    rw [List.foldl_cons]
    rw [List.filter_cons] at h
    by_cases q : mgL R wd w = true
    · rw [if_pos q] at h
      injection h with h1 h2
      subst h1
      have e : stepF R wd (f, 0) w = (chunksL R wd w, 1) := by
        unfold stepF
        rw [if_pos (show magicB (chunksL R wd w) = true from q), if_pos rfl]
      rw [e, foldF_keep L _ (by simp)]
    · rw [if_neg q] at h
      have e : stepF R wd (f, 0) w = (f, 0) := by
        unfold stepF
        exact if_neg q
      rw [e]; exact foldF_first L f x M h
/-- The best of a list: it is one of them, and none comes before it. -/
theorem foldM_best {R wd : Nat} : ∀ (L : List (List Int)) (s : List Int × Nat), (∀ w ∈ L, w ≠ []) → ((L.foldl (stepM R wd) s).1 = s.1 ∨ (L.foldl (stepM R wd) s).1 ∈ L.filter (mgL R wd)) ∧ (s.1 ≠ [] → ¬ cmpL s.1 (L.foldl (stepM R wd) s).1 < 0) ∧ ∀ x ∈ L.filter (mgL R wd), ¬ cmpL x (L.foldl (stepM R wd) s).1 < 0
  | [], s, _ => ⟨.inl rfl, fun _ => by rw [List.foldl_nil, cmpL_self]; omega, fun x hx => by simp at hx⟩
  | w :: L, s, hL => by
    have hw := hL w List.mem_cons_self
    obtain ⟨h1, h2, h3⟩ := foldM_best L (stepM R wd s w) (fun x hx => hL x (List.mem_cons_of_mem _ hx))
    rw [List.foldl_cons, List.filter_cons]
    by_cases q : mgL R wd w = true
    · rw [if_pos q]
      have q2 : magicB (chunksL R wd w) = true := q
      by_cases c : s.1 = [] ∨ cmpL w s.1 < 0
      · have e : (stepM R wd s w).1 = w := by unfold stepM; rw [if_pos q2, if_pos c]
        rw [e] at h1 h2
        have h2 := h2 hw
        refine ⟨.inr ?_, fun hs => ?_, fun x hx => ?_⟩
        · rcases h1 with h1 | h1
          · rw [h1]; exact List.mem_cons_self
          · exact List.mem_cons_of_mem _ h1
        · rcases c with c | c
          · exact (hs c).elim
          · intro hlt
            by_cases k : cmpL w (List.foldl (stepM R wd) (stepM R wd s w) L).1 < 0
            · exact h2 k
            · exact h2 (cmpL_trans c hlt)
        · rcases List.mem_cons.1 hx with hx | hx
          · rw [hx]; exact h2
          · exact h3 x hx
      · have e : (stepM R wd s w).1 = s.1 := by unfold stepM; rw [if_pos q2, if_neg c]
        rw [e] at h1 h2
        have c1 : s.1 ≠ [] := fun z => c (.inl z)
        have c2 : ¬ cmpL w s.1 < 0 := fun z => c (.inr z)
        refine ⟨?_, h2, fun x hx => ?_⟩
        · rcases h1 with h1 | h1
          · exact .inl h1
          · exact .inr (List.mem_cons_of_mem _ h1)
        · rcases List.mem_cons.1 hx with hx | hx
          · rw [hx]; exact cmpL_ntrans c2 (h2 c1)
          · exact h3 x hx
    · rw [if_neg q]
      have e : stepM R wd s w = s := by unfold stepM; exact if_neg q
      rw [e] at h1 h2 h3 ⊢
      exact ⟨h1, h2, h3⟩
theorem magic_same {H : List S_Tile} {a : Int} (hok : okMg H a) : (stMg H a).2 = (stFg H a).2 ∧ (stMg H a).2 ≤ 1000000000 ∧ ((stMg H a).2 ≠ 0 → chunksL a.toNat (wdM H a) (stMg H a).1 = (stFg H a).1) := by
  obtain ⟨hnd, hgd⟩ := okMg_hand hok
  obtain ⟨R, wd, rfl, hwd, hR, hR3, hw, hw4, hRm, hn1, hn6⟩ := okMg_at hok
  unfold stMg stFg walkL lookS
  rw [hwd, Int.toNat_natCast]
  have hN := layN_nodup H.length H.length [] H hnd hgd
  have hS := lookN_sorted stpE H.length [] (sortT H)
  have hmem := lay_look H.length stpE (fun l K => K.Nodup ∧ (∀ t ∈ K, goodT t = true) ∧ l.length + 2 * K.length = 2 * H.length)
    (fun l K h => by unfold stpE; rw [decide_eq_decide]; omega)
    (fun l K a b h ht => ⟨lessT_nodup _ _, lessT_good, by rw [lessT_len1 h.1 h.2.1 ht]; have := List.length_pos_of_mem ht; have := h.2.2; simp; omega⟩)
    H.length H.length [] H (sortT H) (by simp) rfl hnd hgd (fun t => by rw [sortT_mem]; exact ⟨fun h => ⟨h, hgd t h⟩, fun h => h.1⟩) ⟨sortT_nodup _, fun t ht => ((sortT_mem H t).1 ht).2, by rw [sortT_len1 hnd hgd]; simp⟩
  have hSf := hS.filter (mgL R wd)
  have hNf := hN.filter (mgL R wd)
  have hP : ((layN H.length H.length [] H).filter (mgL R wd)).Perm ((lookN stpE H.length [] (sortT H)).filter (mgL R wd)) := by
    rw [List.perm_ext_iff_of_nodup hNf (hSf.imp fun {a b} h e => by subst e; rw [cmpL_self] at h; omega)]
    intro w
    rw [List.mem_filter, List.mem_filter, hmem w]
  have hb := layN_bound H.length H.length H.length [] H (by simp) rfl (by omega)
  have hb2 : 18 ^ H.length ≤ 18 ^ 6 := Nat.pow_le_pow_right (by omega) hn6
  have hb3 : (18 : Nat) ^ 6 = 34012224 := by decide
  have hfl := List.length_filter_le (mgL R wd) (layN H.length H.length [] H)
  rw [foldM_count, foldF_count]
  refine ⟨by rw [hP.length_eq], by simp only [Nat.zero_add]; omega, fun hne => ?_⟩
  have hne2 : (layN H.length H.length [] H).filter (mgL R wd) ≠ [] := fun q => hne (by rw [q]; rfl)
  have hwne : ∀ w ∈ layN H.length H.length [] H, w ≠ [] := fun w hw e => by have := layN_mem H.length H.length [] H w hw; subst e; simp at this; omega
  obtain ⟨b1, b2, b3⟩ := foldM_best (R := R) (wd := wd) (layN H.length H.length [] H) ([], 0) hwne
  obtain ⟨B, hB⟩ : ∃ B, (List.foldl (stepM R wd) ([], 0) (layN H.length H.length [] H)).1 = B := ⟨_, rfl⟩
  rw [hB] at b1 b3 ⊢
  have hBne : B ≠ [] := fun q => by
    have := foldM_ne (R := R) (wd := wd) (layN H.length H.length [] H) ([], 0) hwne (fun _ => rfl) (by rw [hB]; exact q)
    rw [foldM_count] at this
    exact hne this
  have hBm : B ∈ (layN H.length H.length [] H).filter (mgL R wd) := by
    rcases b1 with h | h
    · exact (hBne h).elim
    · exact h
  have hBm2 := hP.mem_iff.1 hBm
  cases hM : (lookN stpE H.length [] (sortT H)).filter (mgL R wd) with
  | nil => rw [hM] at hBm2; cases hBm2
  | cons x M =>
    rw [foldF_first _ _ x M hM]
    congr 1
    rw [hM] at hBm2 hSf
    rcases List.mem_cons.1 hBm2 with h | h
    · exact h
    · have hlt := (List.pairwise_cons.1 hSf).1 B h
      have hx : x ∈ (layN H.length H.length [] H).filter (mgL R wd) := hP.mem_iff.2 (by rw [hM]; exact List.mem_cons_self)
      exact (b3 x hx hlt).elim
end Go.Proofs.Ytbkaedmabdgdhaa.Pure
namespace Go.Proofs.Ytbkaedmabdgdhaa.Hd
open Go.RowKit Go.Proofs.Ytbkaedmabdgdhaa.Pure Go.Proofs.YtbkaedmabdgdhaaW.PrintWords Go.Proofs.YtbkaedmabdgdhaaW.PrintLast Go.Proofs.YtbkaedmabdgdhaaW.PrintMore
set_option linter.unusedVariables false
set_option linter.unusedSimpArgs false
end Go.Proofs.Ytbkaedmabdgdhaa.Hd
namespace Go.Proofs.Ytbkaedmabdgdhaa.Pure
open Go.RowKit Go.Proofs.Ytbkaedmabdgdhaa.Hd Go.Proofs.YtbkaedmabdgdhaaW.PrintWords Go.Proofs.YtbkaedmabdgdhaaW.PrintLast
set_option linter.unusedVariables false
set_option linter.unusedSimpArgs false
def resFirstMagic (l : List S_Tile) (a : Int) : List (List Int) × Bool := if okMg l a then (if (stFg l a).2 = 0 then ([], false) else ((stFg l a).1, true)) else ([], false)
theorem specFirstMagic_eq (l : List S_Tile) (a : Int) (hl : l.length ≤ 1048576) : spec_FirstMagic.f l a = some (resFirstMagic l a) := by
  unfold spec_FirstMagic.f resFirstMagic
  rw [if_pos hl]
  by_cases h : okMg l a
  · obtain ⟨h1, h2, h3⟩ := magic_same h
    rw [if_pos h, if_pos h, if_pos (by omega)]
    split <;> rfl
  · rw [if_neg h, if_neg h]
theorem implFirstMagic_eq (l : List S_Tile) (a : Int) : impl_FirstMagic.f l a = some (resFirstMagic l a) := by
  unfold impl_FirstMagic.f impl_magic.f resFirstMagic
  by_cases h : okMg l a
  · obtain ⟨h1, h2, h3⟩ := magic_same h
    rw [if_pos h, if_pos h, if_pos h2, Option.bind_some, ← h1]
    by_cases z : (stMg l a).2 = 0
    · rw [if_pos z, if_pos z]; rfl
    · rw [if_neg z, if_neg z, ← h3 z]
      have : decide (((stMg l a).2 : Int) > 0) = true := decide_eq_true (by omega)
      simp only [this]
  · rw [if_neg h, if_neg h, Option.bind_some]; rfl
theorem resFirstMagic_len (l : List S_Tile) (a : Int) : (resFirstMagic l a).1.length ≤ 3 ∧ (resFirstMagic l a).1.flatten.length ≤ 12 := by
  unfold resFirstMagic
  by_cases h : okMg l a
  · rw [if_pos h]
    by_cases z : (stFg l a).2 = 0
    · rw [if_pos z]; simp
    · rw [if_neg z]
      obtain ⟨h1, h2, h3⟩ := magic_same h
      have h3 := h3 (by omega)
      obtain ⟨R, wd, rfl, hwd, hR, hR3, hw, hw4, hRm, hn1, hn6⟩ := okMg_at h
      have hne : (stMg l (R : Int)).1 ≠ [] := by
        unfold stMg at h1 ⊢
        exact walkM_ne hn1 (by omega)
      have hlen : (stMg l (R : Int)).1.length = 2 * l.length := by
        unfold stMg at hne ⊢
        exact walkM_len (fun q => (q rfl).elim) hne
      rw [hwd, Int.toNat_natCast] at h3
      dsimp only
      rw [← h3]
      have hc := chunksL_len R wd (stMg l (R : Int)).1
      have ha := chunks_all (R := R) (wd := wd) (l := (stMg l (R : Int)).1) (by omega)
      refine ⟨by omega, ?_⟩
      have key : ∀ (L : List (List Int)), (∀ x ∈ L, x.length = wd) → L.flatten.length = L.length * wd := by
        intro L
        induction L with
        | nil => intro _; simp
        | cons x L ih =>
          intro hx
          have e1 := hx x List.mem_cons_self
          have e2 := ih (fun y hy => hx y (List.mem_cons_of_mem _ hy))
          rw [List.flatten_cons, List.length_append, List.length_cons, Nat.add_mul, Nat.one_mul]; omega
      rw [key _ ha, hc, hRm]; omega
  · rw [if_neg h]; simp
end Go.Proofs.Ytbkaedmabdgdhaa.Pure
