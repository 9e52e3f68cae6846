/- Moves that are made: plain. -/
import Derived.Test.YtjaojemmbeddfaaGreatPFitA
namespace Go.Proofs.YtjaojemmbeddfaaGreat.Pure
open Go.RowKit Go.Proofs.YtjaojemmbeddfaaGreat.Hd Go.Proofs.YtjaojemmbeddfaaGreatW.PrintWords Go.Proofs.YtjaojemmbeddfaaGreatW.PrintLast
set_option linter.unusedVariables false
set_option linter.unusedSimpArgs false
def outT (t x : S_Tile) : Bool := !(x.f0 == t.f0) || !(x.f1 == t.f1)
theorem outT_iff (t x : S_Tile) : outT t x = true ↔ x ≠ t := by
  obtain ⟨a, b⟩ := t; obtain ⟨c, d⟩ := x
  unfold outT
  by_cases h : c = a <;> by_cases h2 : d = b <;> simp [h, h2]
def gone1 (l : List S_Tile) (t : S_Tile) : List S_Tile := l.filter (outT t)
theorem gone1_len (l : List S_Tile) (t : S_Tile) : (gone1 l t).length ≤ l.length := List.length_filter_le _ _
theorem gone1_mem {l : List S_Tile} {t x : S_Tile} (h : x ∈ gone1 l t) : x ∈ l := (List.mem_filter.1 h).1
theorem gone1_same {l : List S_Tile} {t : S_Tile} (h : t ∉ l) : gone1 l t = l := List.filter_eq_self.2 fun a ha => (outT_iff t a).2 (fun e => h (e ▸ ha))
theorem gone1_lt {l : List S_Tile} {t : S_Tile} (h : t ∈ l) : (gone1 l t).length < l.length :=
  List.length_filter_lt_length_iff_exists.2 ⟨t, h, fun q => (outT_iff t t).1 q rfl⟩
theorem gone1_hand {l : List S_Tile} (h : handB l = true) (t : S_Tile) : handB (gone1 l t) = true := by
  unfold handB difT at h ⊢
  rw [Bool.and_eq_true, Bool.and_eq_true] at h ⊢
  obtain ⟨h1, h2, h3⟩ := h
  refine ⟨decide_eq_true (Nat.le_trans (gone1_len l t) (of_decide_eq_true h1)), ?_, decide_eq_true ((of_decide_eq_true h3).sublist List.filter_sublist)⟩
  rw [List.all_eq_true] at h2 ⊢
  exact fun x hx => h2 x (gone1_mem hx)
structure Gm where
  f : List S_Tile
  s : List S_Tile
  r : List Int
  t : Int
  p : Int
def Gm.moves (g : Gm) : List S_plLay := movesL g.f g.s g.r g.t g.p
def Gm.over (g : Gm) : Bool := overB g.f g.s g.p
def otherN (t : S_Tile) (n : Int) : Int := t.f0 + t.f1 - n
def rowP (r : List Int) (x : S_plLay) : List Int := if r.length = 0 then [x.f0.f0, x.f0.f1] else if x.f1 = true then [otherN x.f0 (endA r)] ++ r else r ++ [otherN x.f0 (endB r)]
/-- The game behind a move, as the program makes it. -/
def Gm.make (g : Gm) (x : S_plLay) : Gm := if x.f2 = true then ⟨g.f, g.s, g.r, 1 - g.t, g.p + 1⟩ else ⟨gone1 g.f x.f0, gone1 g.s x.f0, rowP g.r x, 1 - g.t, 0⟩
/-- The game behind a move, as the reference makes it. -/
def Gm.makeS (g : Gm) (x : S_plLay) : Gm := if x.f2 = true then ⟨g.f, g.s, g.r, 1 - g.t, g.p + 1⟩ else ⟨if g.t = 0 then gone1 g.f x.f0 else g.f, if g.t = 0 then g.s else gone1 g.s x.f0, rowP g.r x, 1 - g.t, 0⟩
structure GmOk (g : Gm) : Prop where
  f : handB g.f = true
  s : handB g.s = true
  t : 0 ≤ g.t ∧ g.t ≤ 1
  p : 0 ≤ g.p ∧ g.p ≤ 2
  d : ∀ x ∈ g.f, x ∉ g.s
theorem GmOk.of {f s : List S_Tile} {r : List Int} {t p : Int} (h : gameB f s r t p = true) : GmOk ⟨f, s, r, t, p⟩ := by
  unfold gameB inB difT at h
  simp only [Bool.and_eq_true, decide_eq_true_eq] at h
  obtain ⟨⟨h1, h2, ⟨h3, h4⟩, h5, h6⟩, -, h7⟩ := h
  refine ⟨h1, h2, ⟨h3, h4⟩, ⟨h5, h6⟩, fun x hx hs => ?_⟩
  rw [List.nodup_append] at h7
  have h8 := h7.1
  rw [List.nodup_append] at h8
  exact h8.2.2 x hx x hs rfl
theorem moves_mem {g : Gm} {x : S_plLay} (h : x ∈ g.moves) : g.over = false ∧ (x = ⟨⟨0, 0⟩, false, true⟩ ∨
    (x.f2 = false ∧ x.f0 ∈ ownT g.f g.s g.t ∧ goodT x.f0 = true ∧ (g.r.length = 0 → x.f1 = true) ∧ (g.r.length ≠ 0 → hasT x.f0 (if x.f1 = true then endA g.r else endB g.r) = true))) := by
  unfold Gm.moves movesL at h
  unfold Gm.over
  split at h
  · exact absurd h List.not_mem_nil
  · rename_i hov
    refine ⟨by simpa using hov, ?_⟩
    split at h
    · exact .inl (List.mem_singleton.1 h)
    · right
      unfold fitTo at h
      rw [List.mem_flatMap] at h
      obtain ⟨t, ht, hx⟩ := h
      have hg := (sortT_mem (ownT g.f g.s g.t) t).1 (List.mem_of_mem_take ht)
      unfold fitL at hx
      split at hx
      · rename_i h0
        rw [List.mem_singleton] at hx; subst hx
        exact ⟨rfl, hg.1, hg.2, fun _ => rfl, fun q => absurd h0 q⟩
      · rename_i h0
        rw [List.mem_append] at hx
        rcases hx with hx | hx
        · split at hx
          · rename_i ha
            rw [List.mem_singleton] at hx; subst hx
            exact ⟨rfl, hg.1, hg.2, fun _ => rfl, fun _ => by simpa using ha⟩
          · exact absurd hx List.not_mem_nil
        · split at hx
          · rename_i ha
            rw [List.mem_singleton] at hx; subst hx
            exact ⟨rfl, hg.1, hg.2, fun q => absurd q h0, fun _ => by simpa using ha⟩
          · exact absurd hx List.not_mem_nil
theorem make_ok {g : Gm} (ho : GmOk g) {x : S_plLay} (h : x ∈ g.moves) : GmOk (g.make x) := by
  have hm := (moves_mem h).1
  have ht := ho.t
  have hp := ho.p
  unfold Gm.make
  split
  · refine ⟨ho.f, ho.s, ?_, ?_, ho.d⟩
    · show 0 ≤ 1 - g.t ∧ 1 - g.t ≤ 1
      omega
    · show 0 ≤ g.p + 1 ∧ g.p + 1 ≤ 2
      have h2 : g.p ≠ 2 := fun e => by unfold Gm.over overB at hm; rw [e] at hm; simp at hm
      omega
  · refine ⟨gone1_hand ho.f _, gone1_hand ho.s _, ?_, ?_, fun y hy hs => ho.d y (gone1_mem hy) (gone1_mem hs)⟩
    · show 0 ≤ 1 - g.t ∧ 1 - g.t ≤ 1
      omega
    · show (0 : Int) ≤ 0 ∧ (0 : Int) ≤ 2
      omega
theorem makeS_eq {g : Gm} (ho : GmOk g) {x : S_plLay} (h : x ∈ g.moves) : g.makeS x = g.make x := by
  unfold Gm.makeS Gm.make
  split
  · rfl
  · rename_i hx
    rcases (moves_mem h).2 with rfl | ⟨_, hm, -⟩
    · exact absurd rfl hx
    · have ht := ho.t
      unfold ownT at hm
      by_cases h0 : g.t = 0
      · rw [if_pos h0, if_pos h0]
        rw [if_neg (by omega)] at hm
        rw [gone1_same (ho.d _ hm)]
      · rw [if_neg h0, if_neg h0]
        rw [if_pos (by omega)] at hm
        rw [gone1_same (fun q => ho.d _ q hm)]
theorem make_row (g : Gm) (x : S_plLay) : (g.make x).r.length ≤ g.r.length + 2 := by
  unfold Gm.make rowP
  split
  · show g.r.length ≤ _; omega
  · show List.length _ ≤ _
    split
    · simp
    · split <;> simp <;> omega
/-- What the moves and the making of one want of a game. -/
def gmB (f s : List S_Tile) (r : List Int) (t p : Int) : Prop := (handB f = true ∧ handB s = true) ∧ r.length ≤ 2000000 ∧ (0 ≤ t ∧ t ≤ 1) ∧ 0 ≤ p ∧ p ≤ 2
instance (f s : List S_Tile) (r : List Int) (t p : Int) : Decidable (gmB f s r t p) := by unfold gmB; infer_instance
theorem hand_len {l : List S_Tile} (h : handB l = true) : l.length ≤ 55 := by
  unfold handB at h
  rw [Bool.and_eq_true] at h
  exact of_decide_eq_true h.1
/-- The move with a text. -/
def findM (L : List S_plLay) (mv : ByteArray) : Option S_plLay := L.find? fun x => decide (txt x = mv)
theorem findM_some {L : List S_plLay} {mv : ByteArray} {x : S_plLay} (h : findM L mv = some x) : x ∈ L ∧ txt x = mv := by
  unfold findM at h
  exact ⟨List.mem_of_find?_eq_some h, by simpa using List.find?_some h⟩
theorem findM_mem (L : List S_plLay) (mv : ByteArray) : mv ∈ L.map txt ↔ ∃ x, findM L mv = some x := by
  constructor
  · intro h
    obtain ⟨x, hx, e⟩ := List.mem_map.1 h
    cases hf : findM L mv with
    | some y => exact ⟨y, rfl⟩
    | none =>
      unfold findM at hf
      rw [List.find?_eq_none] at hf
      exact absurd (decide_eq_true e) (hf x hx)
  · rintro ⟨x, hx⟩
    have := findM_some hx
    exact List.mem_map.2 ⟨x, this.1, this.2⟩
end Go.Proofs.YtjaojemmbeddfaaGreat.Pure
