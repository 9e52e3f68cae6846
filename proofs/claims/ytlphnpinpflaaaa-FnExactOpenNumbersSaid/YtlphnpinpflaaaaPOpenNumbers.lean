/- OpenNumbers: both sides answer alike. -/
import Derived.Test.YtlphnpinpflaaaaMLyOpen
import Derived.Test.YtlphnpinpflaaaaMOpenI
import Derived.Test.YtlphnpinpflaaaaPSortI
namespace Go.Proofs.Ytlphnpinpflaaaa.Pure
open Go.RowKit Go.Proofs.Ytlphnpinpflaaaa.Hd Go.Proofs.YtlphnpinpflaaaaW.PrintWords Go.Proofs.YtlphnpinpflaaaaW.PrintLast
set_option linter.unusedVariables false
set_option linter.unusedSimpArgs false
theorem pos_next {l : LySt} {s : SpSt} (R : SpRel l s) (hpos : ∀ a ∈ l.ar, 0 ≤ a.f0) (p : S_Play) (hc : lyCan l p = true) : ∀ a ∈ (lyDo l p).ar, 0 ≤ a.f0 := by
  unfold lyCan at hc
  simp only [Bool.and_eq_true] at hc
  obtain ⟨⟨⟨hg, -⟩, -⟩, hc⟩ := hc
  have hb := good_bd hg
  unfold lyDo
  dsimp only
  by_cases h0 : l.ti.length = 0
  · rw [if_pos h0]
    intro a ha
    simp only [List.mem_cons, List.not_mem_nil, or_false] at ha
    rcases ha with rfl | rfl <;> simp only <;> omega
  · rw [if_neg h0] at hc ⊢
    simp only [Bool.and_eq_true, decide_eq_true_eq, Bool.not_eq_true', decide_eq_false_iff_not] at hc
    have hset : ∀ a ∈ l.ar.set p.f1.toNat ⟨othT p.f0 (rd_Arm l.ar p.f1).f0, p.f0.f0 == p.f0.f1, false⟩, 0 ≤ a.f0 := by
      intro a ha
      rcases List.mem_or_eq_of_mem_set ha with h1 | h1
      · exact hpos a h1
      · subst h1; show 0 ≤ othT _ _; omega
    split
    · rename_i hs
      have hsp : 0 ≤ l.sp := by
        simp only [Bool.or_eq_true, Bool.and_eq_true, beq_iff_eq] at hs
        rcases hs with hs | hs
        · have := hs.1.1
          unfold lyHit at this
          simp only [Bool.and_eq_true] at this
          exact (R.fw this.1.1).2
        · rcases R.wt with h1 | h1
          · omega
          · exact h1.2
      intro a ha
      rcases List.mem_append.1 ha with h1 | h1
      · exact hset a h1
      · simp only [List.mem_cons, List.not_mem_nil, or_false] at h1
        rcases h1 with rfl | rfl <;> exact hsp
    · exact hset
theorem read_pos : ∀ (plays : List S_Play) (l l' : LySt) (s : SpSt) (n : Nat), SpRel l s → LyOk l n → n + plays.length ≤ 28 → (∀ a ∈ l.ar, 0 ≤ a.f0) → plays.foldlM lyAdd l = some l' → ∀ a ∈ l'.ar, 0 ≤ a.f0 := by
  intro plays
  induction plays with
  | nil => intro l l' s n R _ _ hp h; simp at h; subst h; exact hp
  | cons p plays ih =>
    intro l l' s n R hok hn hp h
    rw [List.length_cons] at hn
    rw [List.foldlM_cons] at h
    cases hl : lyCan l p with
    | false => simp [lyAdd, hl] at h
    | true =>
      have e1 : lyAdd l p = some (lyDo l p) := by simp [lyAdd, hl]
      rw [e1] at h
      exact ih (lyDo l p) l' (spDo s p) (n + 1) (do_rel R p hl) (lyOk_next hok hl) (by omega) (pos_next R hp p hl) h
theorem openFold {l : List S_Play} {s : LySt} (h : lyReadF l = some s) : l.foldlM lyAdd lyS0 = some s := by
  unfold lyReadF at h
  split at h
  · cases h
  · exact h
theorem ends_pos {l : List S_Play} {s : LySt} (h : lyReadF l = some s) : ∀ a ∈ s.ar, 0 ≤ a.f0 ∧ a.f0 ≤ 9 := by
  obtain ⟨hok, h28⟩ := lyOk_read h
  have hp := read_pos l lyS0 s spS0 0 spRel_start lyOk_start (by omega) (by simp [lyS0]) (openFold h)
  exact fun a ha => ⟨hp a ha, (hok.ends a ha).2⟩
theorem opn_eq (ar : List S_Arm) (h : ∀ a ∈ ar, 0 ≤ a.f0 ∧ a.f0 ≤ 9) : Lib.compact (sortI (ar.map fun a => a.f0)) = opn ar 10 := by
  refine lt_ext _ _ (compact_lt _ (sortI_le _)) ?_ (fun x => ?_)
  · unfold opn
    refine List.Pairwise.filter _ ?_
    rw [List.pairwise_map]
    refine List.Pairwise.imp (fun h => ?_) List.pairwise_lt_range
    omega
  · rw [compact_mem, sortI_mem, opn_mem, List.mem_map]
    unfold opnB
    rw [List.any_eq_true]
    constructor
    · rintro ⟨a, ha, rfl⟩
      exact ⟨(h a ha).1, by have := (h a ha).2; omega, a, ha, by simp⟩
    · rintro ⟨_, _, a, ha, hx⟩
      exact ⟨a, ha, by simpa using hx⟩
def resOpenNumbers (l : List S_Play) : List Int × Bool := match lyReadF l with | some s => (opn s.ar 10, true) | none => ([], false)
theorem resOpenNumbers_len (l : List S_Play) : (resOpenNumbers l).1.length ≤ 10 := by
  unfold resOpenNumbers
  cases lyReadF l with
  | none => simp
  | some s => exact opn_len _ _
theorem specOpenNumbers_ev (l : List S_Play) (hl : l.length ≤ 1048576) : Ev (fun k => spec_OpenNumbers.f l) (resOpenNumbers l) := by
  unfold spec_OpenNumbers.f resOpenNumbers
  refine Ev.pos (by omega) ?_
  cases lyReadF l with
  | none => exact Ev.ret rfl
  | some s => exact Ev.ret rfl
theorem implOpenNumbers_ev (l : List S_Play) (hl : l.length ≤ 1048576) : Ev (fun k => impl_OpenNumbers.f l) (resOpenNumbers l) := by
  unfold impl_OpenNumbers.f resOpenNumbers
  refine Ev.pos (by omega) ?_
  rcases both_read l with ⟨h1, h2⟩ | ⟨a, t, h1, h2, R, hok, h28⟩
  · rw [h1, h2]; exact Ev.ret rfl
  · rw [h1, h2]
    refine Ev.ret ?_
    dsimp only
    rw [R.ar, opn_eq a.ar (ends_pos h1)]
end Go.Proofs.Ytlphnpinpflaaaa.Pure
