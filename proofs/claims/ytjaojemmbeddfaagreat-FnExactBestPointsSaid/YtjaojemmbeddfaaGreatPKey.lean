/- The text by which games are told apart: it tells the hands, the row's ends, the turn and the passes (plain). -/
import Derived.Test.YtjaojemmbeddfaaGreatPTile0
import Derived.Lib.Join
namespace Go.Proofs.YtjaojemmbeddfaaGreat.Pure
open Go Go.RowKit Go.Proofs.YtjaojemmbeddfaaGreat.Hd Go.Proofs.YtjaojemmbeddfaaGreatW.PrintWords Go.Proofs.YtjaojemmbeddfaaGreatW.PrintLast
set_option linter.unusedVariables false
set_option linter.unusedSimpArgs false
def dgU (n : Int) : UInt8 := UInt8.ofNat (48 + n.toNat)
theorem dgU_nat {n : Int} (h0 : 0 ≤ n) (h9 : n ≤ 9) : (dgU n).toNat = 48 + n.toNat := by
  unfold dgU
  rw [UInt8.toNat_ofNat']
  omega
theorem dgU_inj {a b : Int} (ha : 0 ≤ a ∧ a ≤ 9) (hb : 0 ≤ b ∧ b ≤ 9) (h : dgU a = dgU b) : a = b := by
  have h1 := dgU_nat ha.1 ha.2
  have h2 := dgU_nat hb.1 hb.2
  rw [h] at h1
  omega
def tlU (t : S_Tile) : List UInt8 := [dgU t.f0, dgU t.f1]
def handU (l : List S_Tile) : List UInt8 := if l.length = 0 then [45] else Lib.join (l.map tlU) [44]
def rowU (l : List Int) : List UInt8 := l.map dgU
theorem sep_inj (c : UInt8) : ∀ (a a' x x' : List UInt8), c ∉ a → c ∉ a' → a ++ c :: x = a' ++ c :: x' → a = a' ∧ x = x'
  | [], [], x, x', _, _, h => by simpa using h
  | [], b :: a', x, x', _, h2, h => by
    simp only [List.nil_append, List.cons_append, List.cons.injEq] at h
    exact (h2 (by rw [h.1]; exact List.mem_cons_self)).elim
  | b :: a, [], x, x', h1, _, h => by
    simp only [List.nil_append, List.cons_append, List.cons.injEq] at h
    exact (h1 (by rw [← h.1]; exact List.mem_cons_self)).elim
  | b :: a, b' :: a', x, x', h1, h2, h => by
    simp only [List.cons_append, List.cons.injEq] at h
    obtain ⟨e, h⟩ := h
    obtain ⟨e1, e2⟩ := sep_inj c a a' x x' (fun q => h1 (List.mem_cons_of_mem _ q)) (fun q => h2 (List.mem_cons_of_mem _ q)) h
    exact ⟨by rw [e, e1], e2⟩
theorem good_bdU {t : S_Tile} (h : goodT t = true) : (0 ≤ t.f0 ∧ t.f0 ≤ 9) ∧ 0 ≤ t.f1 ∧ t.f1 ≤ 9 := by
  unfold goodT at h
  simp only [Bool.and_eq_true, decide_eq_true_eq] at h
  omega
theorem tlU_inj {a b : S_Tile} (ha : goodT a = true) (hb : goodT b = true) (h : tlU a = tlU b) : a = b := by
  unfold tlU at h
  simp only [List.cons.injEq, and_true] at h
  have h1 := dgU_inj (good_bdU ha).1 (good_bdU hb).1 h.1
  have h2 := dgU_inj (good_bdU ha).2 (good_bdU hb).2 h.2
  cases a; cases b
  simp only at h1 h2
  rw [h1, h2]
theorem tail_inj : ∀ (l l' : List S_Tile), (∀ t ∈ l, goodT t = true) → (∀ t ∈ l', goodT t = true) → Lib.joinTail [44] (l.map tlU) = Lib.joinTail [44] (l'.map tlU) → l = l'
  | [], [], _, _, _ => rfl
  | [], b :: l', _, _, h => by simp [Lib.joinTail] at h
  | a :: l, [], _, _, h => by simp [Lib.joinTail] at h
  | a :: l, b :: l', h1, h2, h => by
    have e : tlU a = tlU b ∧ Lib.joinTail [44] (l.map tlU) = Lib.joinTail [44] (l'.map tlU) := by
      simp only [Lib.joinTail, List.map_cons, List.flatten_cons, tlU, List.cons_append, List.nil_append, List.cons.injEq, true_and] at h ⊢
      exact ⟨⟨h.1, h.2.1, trivial⟩, h.2.2⟩
    rw [tlU_inj (h1 a List.mem_cons_self) (h2 b List.mem_cons_self) e.1, tail_inj l l' (fun t ht => h1 t (List.mem_cons_of_mem _ ht)) (fun t ht => h2 t (List.mem_cons_of_mem _ ht)) e.2]
theorem handU_inj {l l' : List S_Tile} (h1 : ∀ t ∈ l, goodT t = true) (h2 : ∀ t ∈ l', goodT t = true) (h : handU l = handU l') : l = l' := by
  have hd : ∀ (t : S_Tile), goodT t = true → dgU t.f0 ≠ 45 := fun t ht q => by
    have := dgU_nat (good_bdU ht).1.1 (good_bdU ht).1.2
    rw [q] at this
    have e : (45 : UInt8).toNat = 45 := rfl
    omega
  match l, l' with
  | [], [] => rfl
  | [], b :: l' =>
    unfold handU at h
    simp only [List.length_nil, if_true, List.length_cons, Nat.add_one_ne_zero, if_false, List.map_cons, Lib.join_cons, tlU, List.cons_append, List.cons.injEq] at h
    exact (hd b (h2 b List.mem_cons_self) h.1.symm).elim
  | a :: l, [] =>
    unfold handU at h
    simp only [List.length_nil, if_true, List.length_cons, Nat.add_one_ne_zero, if_false, List.map_cons, Lib.join_cons, tlU, List.cons_append, List.cons.injEq] at h
    exact (hd a (h1 a List.mem_cons_self) h.1).elim
  | a :: l, b :: l' =>
    unfold handU at h
    simp only [List.length_cons, Nat.add_one_ne_zero, if_false, List.map_cons, Lib.join_cons] at h
    have e : tlU a = tlU b ∧ Lib.joinTail [44] (l.map tlU) = Lib.joinTail [44] (l'.map tlU) := by
      simp only [tlU, List.cons_append, List.nil_append, List.cons.injEq] at h ⊢
      exact ⟨⟨h.1, h.2.1, trivial⟩, h.2.2⟩
    rw [tlU_inj (h1 a List.mem_cons_self) (h2 b List.mem_cons_self) e.1, tail_inj l l' (fun t ht => h1 t (List.mem_cons_of_mem _ ht)) (fun t ht => h2 t (List.mem_cons_of_mem _ ht)) e.2]
theorem rowU_inj : ∀ {l l' : List Int}, (∀ x ∈ l, 0 ≤ x ∧ x ≤ 9) → (∀ x ∈ l', 0 ≤ x ∧ x ≤ 9) → rowU l = rowU l' → l = l'
  | [], [], _, _, _ => rfl
  | [], _ :: _, _, _, h => by simp [rowU] at h
  | _ :: _, [], _, _, h => by simp [rowU] at h
  | a :: l, b :: l', h1, h2, h => by
    simp only [rowU, List.map_cons, List.cons.injEq] at h
    rw [dgU_inj (h1 a List.mem_cons_self) (h2 b List.mem_cons_self) h.1, rowU_inj (l := l) (l' := l') (fun x hx => h1 x (List.mem_cons_of_mem _ hx)) (fun x hx => h2 x (List.mem_cons_of_mem _ hx)) h.2]
theorem dgU_58 {n : Int} (h0 : 0 ≤ n) (h9 : n ≤ 9) : dgU n ≠ 58 := fun q => by
  have := dgU_nat h0 h9
  rw [q] at this
  have e : (58 : UInt8).toNat = 58 := rfl
  omega
theorem rowU_58 {l : List Int} (h : ∀ x ∈ l, 0 ≤ x ∧ x ≤ 9) : (58 : UInt8) ∉ rowU l := fun q => by
  unfold rowU at q
  obtain ⟨x, hx, e⟩ := List.mem_map.1 q
  exact dgU_58 (h x hx).1 (h x hx).2 e
theorem tail_58 : ∀ (l : List S_Tile), (∀ t ∈ l, goodT t = true) → (58 : UInt8) ∉ Lib.joinTail [44] (l.map tlU)
  | [], _, q => by simp [Lib.joinTail] at q
  | a :: l, h, q => by
    simp only [Lib.joinTail, List.map_cons, List.flatten_cons, tlU, List.cons_append, List.nil_append, List.mem_cons] at q
    have hb := good_bdU (h a List.mem_cons_self)
    rcases q with q | q | q | q
    · exact absurd q (by decide)
    · exact dgU_58 hb.1.1 hb.1.2 q.symm
    · exact dgU_58 hb.2.1 hb.2.2 q.symm
    · exact tail_58 l (fun t ht => h t (List.mem_cons_of_mem _ ht)) q
theorem handU_58 {l : List S_Tile} (h : ∀ t ∈ l, goodT t = true) : (58 : UInt8) ∉ handU l := fun q => by
  match l with
  | [] => simp [handU] at q
  | a :: l =>
    unfold handU at q
    simp only [List.length_cons, Nat.add_one_ne_zero, if_false, List.map_cons, Lib.join_cons, tlU, List.cons_append, List.nil_append, List.mem_cons] at q
    have hb := good_bdU (h a List.mem_cons_self)
    rcases q with q | q | q
    · exact dgU_58 hb.1.1 hb.1.2 q.symm
    · exact dgU_58 hb.2.1 hb.2.2 q.symm
    · exact tail_58 l (fun t ht => h t (List.mem_cons_of_mem _ ht)) q
/-- The text of a game, and what it tells. -/
def keyU (f s : List S_Tile) (e : List Int) (t p : Int) : List UInt8 := Lib.join [handU f, handU s, rowU e, rowU [t, p]] [58]
theorem keyU_inj {f s f' s' : List S_Tile} {e e' : List Int} {t p t' p' : Int} (hf : ∀ t ∈ f, goodT t = true) (hs : ∀ t ∈ s, goodT t = true) (hf' : ∀ t ∈ f', goodT t = true) (hs' : ∀ t ∈ s', goodT t = true) (he : ∀ x ∈ e, 0 ≤ x ∧ x ≤ 9) (he' : ∀ x ∈ e', 0 ≤ x ∧ x ≤ 9) (ht : 0 ≤ t ∧ t ≤ 9) (hp : 0 ≤ p ∧ p ≤ 9) (ht' : 0 ≤ t' ∧ t' ≤ 9) (hp' : 0 ≤ p' ∧ p' ≤ 9)
    (h : keyU f s e t p = keyU f' s' e' t' p') : f = f' ∧ s = s' ∧ e = e' ∧ t = t' ∧ p = p' := by
  have e1 : ∀ (f s : List S_Tile) (e : List Int) (t p : Int), keyU f s e t p = handU f ++ 58 :: (handU s ++ 58 :: (rowU e ++ 58 :: rowU [t, p])) := fun f s e t p => by
    unfold keyU; simp [Lib.join_cons, Lib.joinTail]
  rw [e1, e1] at h
  obtain ⟨h1, h⟩ := sep_inj 58 _ _ _ _ (handU_58 hf) (handU_58 hf') h
  obtain ⟨h2, h⟩ := sep_inj 58 _ _ _ _ (handU_58 hs) (handU_58 hs') h
  obtain ⟨h3, h⟩ := sep_inj 58 _ _ _ _ (rowU_58 he) (rowU_58 he') h
  have h4 := rowU_inj (l := [t, p]) (l' := [t', p']) (by simp only [List.mem_cons, List.not_mem_nil, or_false]; rintro x (rfl | rfl) <;> assumption) (by simp only [List.mem_cons, List.not_mem_nil, or_false]; rintro x (rfl | rfl) <;> assumption) h
  simp only [List.cons.injEq, and_true] at h4
  exact ⟨handU_inj hf hf' h1, handU_inj hs hs' h2, rowU_inj he he' h3, h4.1, h4.2⟩
end Go.Proofs.YtjaojemmbeddfaaGreat.Pure
