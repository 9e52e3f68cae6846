/- Both sides read a list of plays alike. -/
import Derived.Test.YtddgfphbbkjmpaaDoorMLyFold
import Derived.Test.YtddgfphbbkjmpaaDoorMSpFold
import Derived.Test.YtddgfphbbkjmpaaDoorPEv
namespace Go.Proofs.YtddgfphbbkjmpaaDoor.Pure
open Go.RowKit Go.Proofs.YtddgfphbbkjmpaaDoor.Hd Go.Proofs.YtddgfphbbkjmpaaDoorW.PrintWords Go.Proofs.YtddgfphbbkjmpaaDoorW.PrintLast
set_option linter.unusedVariables false
set_option linter.unusedSimpArgs false
structure SpRel (l : LySt) (s : SpSt) : Prop where
  ar : s.ar = l.ar
  ti : s.ti = l.ti
  sp : s.sp = l.sp
  w0 : s.w0 = ((l.fi && !l.l0) || l.wt == 0)
  w1 : s.w1 = ((l.fi && !l.l1) || l.wt == 1)
  fw : l.fi = true → l.wt = -1 ∧ 0 ≤ l.sp
  nf : l.fi = false → l.l0 = false ∧ l.l1 = false
  wt : l.wt = -1 ∨ ((l.wt = 0 ∨ l.wt = 1) ∧ 0 ≤ l.sp)
  neg : l.sp < 0 → l.ar.length ≤ 2
  zero : l.ti.length = 0 → l.fi = false ∧ l.wt = -1 ∧ l.sp < 0
theorem spRel_start : SpRel lyS0 spS0 := ⟨rfl, rfl, rfl, rfl, rfl, by simp [lyS0], by simp [lyS0], .inl rfl, by simp [lyS0], by simp [lyS0]⟩
theorem oth_has {t : S_Tile} (h : goodT t = true) (e : Int) : decide (othT t e < 0) = !(t.f0 == e || t.f1 == e) := by
  have hb := good_bd h
  unfold othT
  by_cases h0 : e = t.f0
  · rw [if_pos h0]
    have : (t.f0 == e) = true := by simp [h0]
    rw [this]
    simp
    omega
  · rw [if_neg h0]
    have h1 : (t.f0 == e) = false := by simpa using fun q => h0 q.symm
    rw [h1]
    by_cases h2 : e = t.f1
    · rw [if_pos h2]
      have : (t.f1 == e) = true := by simp [h2]
      rw [this]
      simp
      omega
    · rw [if_neg h2]
      have : (t.f1 == e) = false := by simpa using fun q => h2 q.symm
      rw [this]
      simp
theorem oth_eq {t : S_Tile} (e : Int) (h : (t.f0 == e || t.f1 == e) = true) : othT t e = t.f0 + t.f1 - e := by
  simp only [Bool.or_eq_true, beq_iff_eq] at h
  unfold othT
  split
  · omega
  · split <;> omega
theorem can_eq {l : LySt} {s : SpSt} (R : SpRel l s) (h28 : l.ti.length ≤ 28) (p : S_Play) : spCan s p = lyCan l p := by
  unfold spCan lyCan
  rw [R.ar, R.ti]
  cases hg : goodT p.f0 with
  | false => simp
  | true =>
    have h1 : decide (p.f0 ∈ l.ti) = decide (idxT l.ti p.f0 ≥ 0) := by rw [decide_eq_decide]; exact (idxT_ge l.ti p.f0).symm
    have h2 : ((l.ti.length : Int) == 28) = decide ((l.ti.length : Int) ≥ 28) := by
      rw [Bool.eq_iff_iff]; simp; omega
    rw [h1, h2, oth_has hg, Bool.not_not]
theorem lyDo_later {l : LySt} (p : S_Play) (h0 : ¬ l.ti.length = 0) (hit w n z : Bool) (h1 : lyHit l p.f1 = hit) (h2 : (l.wt == p.f1) = w) (h3 : ((p.f0.f0 == p.f0.f1) && decide (l.sp < 0)) = n) (h4 : (p.f1 == 0) = z) (ar1 : List S_Arm) (h5 : l.ar.set p.f1.toNat ⟨othT p.f0 (rd_Arm l.ar p.f1).f0, p.f0.f0 == p.f0.f1, false⟩ = ar1) :
    lyDo l p = ⟨if ((hit && (l.l0 || (hit && z)) && (l.l1 || (hit && !z))) || w) = true then ar1 ++ [⟨l.sp, false, true⟩, ⟨l.sp, false, true⟩] else ar1, l.ti ++ [p.f0], if n = true then p.f0.f0 else l.sp, if n = true then p.f1 else if w = true then -1 else l.wt, l.fi, l.l0 || (hit && z), l.l1 || (hit && !z)⟩ := by
  unfold lyDo
  rw [if_neg h0]
  subst h1; subst h2; subst h3; subst h4; subst h5
  rfl
theorem spDo_later {s : SpSt} (p : S_Play) (h0 : ¬ s.ti.length = 0) (hit n z : Bool) (h1 : spHit s p.f1 = hit) (h3 : ((p.f0.f0 == p.f0.f1) && decide (s.sp < 0)) = n) (h4 : (p.f1 == 0) = z) (ar1 : List S_Arm) (h5 : s.ar.set p.f1.toNat ⟨p.f0.f0 + p.f0.f1 - (rd_Arm s.ar p.f1).f0, p.f0.f0 == p.f0.f1, false⟩ = ar1) :
    spDo s p = ⟨if (hit && !(s.w0 && !(hit && z)) && !(s.w1 && !(hit && !z))) = true then ar1 ++ [⟨s.sp, false, true⟩, ⟨s.sp, false, true⟩] else ar1, s.ti ++ [p.f0], if n = true then p.f0.f0 else s.sp, (s.w0 && !(hit && z)) || (n && z), (s.w1 && !(hit && !z)) || (n && !z)⟩ := by
  unfold spDo
  rw [if_neg h0]
  subst h1; subst h3; subst h4; subst h5
  rfl
theorem do_rel {l : LySt} {s : SpSt} (R : SpRel l s) (p : S_Play) (hc : lyCan l p = true) : SpRel (lyDo l p) (spDo s p) := by
  obtain ⟨ar, ti, sp, w0, w1⟩ := s
  obtain ⟨lar, lti, lsp, wt, fi, l0, l1⟩ := l
  obtain ⟨e1, e2, e3, e4, e5, hfw, hnf, hwt, hneg, hz⟩ := R
  dsimp only at e1 e2 e3 e4 e5 hfw hnf hwt hneg hz
  subst e1; subst e2; subst e3; subst e4; subst e5
  unfold lyCan at hc
  simp only [Bool.and_eq_true] at hc
  obtain ⟨⟨⟨hg, -⟩, -⟩, hc⟩ := hc
  have hb := good_bd hg
  by_cases h0 : ti.length = 0
  · obtain ⟨z1, z2, z3⟩ := hz h0
    obtain ⟨z4, z5⟩ := hnf z1
    have hn : ti = [] := List.eq_nil_of_length_eq_zero h0
    by_cases hd : p.f0.f0 = p.f0.f1
    · constructor <;> simp [lyDo, spDo, hn, hd, z1, z2, z4, z5] <;> omega
    · have hd' : (p.f0.f0 == p.f0.f1) = false := by simpa using hd
      constructor <;> simp [lyDo, spDo, hn, hd, hd', z1, z2, z4, z5] <;> omega
  · rw [if_neg h0] at hc
    simp only [Bool.and_eq_true, decide_eq_true_eq] at hc
    obtain ⟨⟨ha0, ha1⟩, ho⟩ := hc
    rw [oth_has hg, Bool.not_not] at ho
    have hoe := oth_eq _ ho
    obtain ⟨ar1, har1⟩ : ∃ x, ar.set p.f1.toNat ⟨p.f0.f0 + p.f0.f1 - (rd_Arm ar p.f1).f0, p.f0.f0 == p.f0.f1, false⟩ = x := ⟨_, rfl⟩
    have har2 : ar.set p.f1.toNat ⟨othT p.f0 (rd_Arm ar p.f1).f0, p.f0.f0 == p.f0.f1, false⟩ = ar1 := by rw [hoe]; exact har1
    have hlen1 : ar1.length = ar.length := by rw [← har1]; simp
    obtain ⟨z, hz0⟩ : ∃ z, (p.f1 == 0) = z := ⟨_, rfl⟩
    cases fi with
    | true =>
      obtain ⟨y1, y2⟩ := hfw rfl
      subst y1
      have hw : ((-1 : Int) == p.f1) = false := by rw [beq_eq_false_iff_ne]; omega
      have hs : ((p.f0.f0 == p.f0.f1) && decide (sp < 0)) = false := by simp; omega
      obtain ⟨hit, hhit⟩ : ∃ x, lyHit ⟨ar, ti, sp, -1, true, l0, l1⟩ p.f1 = x := ⟨_, rfl⟩
      have hh : spHit ⟨ar, ti, sp, true && !l0 || (-1 : Int) == 0, true && !l1 || (-1 : Int) == 1⟩ p.f1 = hit := by
        rw [← hhit]
        unfold spHit lyHit
        by_cases c : p.f1 = 0 <;> simp [c]
      rw [lyDo_later p h0 hit false false z hhit hw hs hz0 ar1 har2, spDo_later p h0 hit false z hh hs hz0 ar1 har1]
      refine ⟨?_, rfl, rfl, ?_, ?_, fun _ => ⟨rfl, y2⟩, fun h => (by cases h), .inl rfl, fun h => (by exfalso; exact absurd (show sp < 0 from h) (by omega)), fun h => (by simp at h)⟩
      · cases l0 <;> cases l1 <;> cases hit <;> cases z <;> rfl
      · cases l0 <;> cases hit <;> cases z <;> rfl
      · cases l1 <;> cases hit <;> cases z <;> rfl
    | false =>
      obtain ⟨z4, z5⟩ := hnf rfl
      subst z4; subst z5
      have hl : lyHit ⟨ar, ti, sp, wt, false, false, false⟩ p.f1 = false := rfl
      by_cases hwa : wt = p.f1
      · have h01 : (wt = 0 ∨ wt = 1) ∧ 0 ≤ sp := hwt.elim (fun h => by omega) (fun h => h)
        have hs : ((p.f0.f0 == p.f0.f1) && decide (sp < 0)) = false := by simp; omega
        have hw : (wt == p.f1) = true := by simp [hwa]
        have hh : spHit ⟨ar, ti, sp, false && !false || wt == 0, false && !false || wt == 1⟩ p.f1 = true := by
          unfold spHit
          rcases h01.1 with c | c
          · have c2 : p.f1 = 0 := by omega
            simp [c, c2]
          · have c2 : p.f1 = 1 := by omega
            simp [c, c2]
        rw [lyDo_later p h0 false true false z hl hw hs hz0 ar1 har2, spDo_later p h0 true false z hh hs hz0 ar1 har1]
        have hzw : (wt == 0) = z ∧ (wt == 1) = !z := by
          rw [← hz0, hwa]
          refine ⟨rfl, ?_⟩
          rcases h01.1 with c | c
          · have c2 : p.f1 = 0 := by omega
            simp [c2]
          · have c2 : p.f1 = 1 := by omega
            simp [c2]
        rw [hzw.1, hzw.2]
        refine ⟨?_, rfl, rfl, ?_, ?_, fun h => (by cases h), fun _ => ⟨rfl, rfl⟩, .inl rfl, fun h => (by exfalso; exact absurd (show sp < 0 from h) (by omega)), fun h => (by simp at h)⟩
        · cases z <;> rfl
        · cases z <;> rfl
        · cases z <;> rfl
      · have hw : (wt == p.f1) = false := by simp [hwa]
        have hh : spHit ⟨ar, ti, sp, false && !false || wt == 0, false && !false || wt == 1⟩ p.f1 = false := by
          unfold spHit
          by_cases c : p.f1 = 0
          · have : (wt == 0) = false := by rw [beq_eq_false_iff_ne]; omega
            simp [c, this]
          · by_cases c2 : p.f1 < 2
            · have : (wt == 1) = false := by rw [beq_eq_false_iff_ne]; omega
              simp [c, this]
            · simp [c2]
        obtain ⟨n, hn⟩ : ∃ n, ((p.f0.f0 == p.f0.f1) && decide (sp < 0)) = n := ⟨_, rfl⟩
        rw [lyDo_later p h0 false false n z hl hw hn hz0 ar1 har2, spDo_later p h0 false n z hh hn hz0 ar1 har1]
        cases n with
        | false =>
          refine ⟨rfl, rfl, rfl, ?_, ?_, fun h => (by cases h), fun _ => ⟨rfl, rfl⟩, hwt, fun h => (by have := hneg h; show (ar1).length ≤ 2; omega), fun h => (by simp at h)⟩
          · show (((false && !false || wt == 0) && !(false && z)) || (false && z)) = ((false && !false) || wt == 0)
            cases z <;> simp
          · show (((false && !false || wt == 1) && !(false && !z)) || (false && !z)) = ((false && !false) || wt == 1)
            cases z <;> simp
        | true =>
          simp only [Bool.and_eq_true, decide_eq_true_eq, beq_iff_eq] at hn
          have hlen := hneg hn.2
          have hwm : wt = -1 := hwt.elim (fun h => h) (fun h => by omega)
          subst hwm
          have h01 : p.f1 = 0 ∨ p.f1 = 1 := by omega
          refine ⟨rfl, rfl, rfl, ?_, ?_, fun h => (by cases h), fun _ => ⟨rfl, rfl⟩, .inr ⟨h01, by show 0 ≤ p.f0.f0; omega⟩, fun h => (by exfalso; exact absurd (show p.f0.f0 < 0 from h) (by omega)), fun h => (by simp at h)⟩
          · show (((-1 : Int) == 0) && !false || (true && z)) = ((p.f1 == 0))
            rw [hz0]; cases z <;> rfl
          · show (((-1 : Int) == 1) && !false || (true && !z)) = ((p.f1 == 1))
            rw [← hz0]
            rcases h01 with c | c <;> simp [c]
theorem read_rel : ∀ (plays : List S_Play) (l : LySt) (s : SpSt) (n : Nat), SpRel l s → LyOk l n → n + plays.length ≤ 28 → (plays.foldlM lyAdd l = none ∧ plays.foldlM spAdd s = none) ∨ ∃ l' s', plays.foldlM lyAdd l = some l' ∧ plays.foldlM spAdd s = some s' ∧ SpRel l' s' := by
  intro plays
  induction plays with
  | nil => intro l s n R _ _; exact .inr ⟨l, s, rfl, rfl, R⟩
  | cons p plays ih =>
    intro l s n R hok hn
    rw [List.length_cons] at hn
    have hc := can_eq R (by have := hok.ti; omega) p
    rw [List.foldlM_cons, List.foldlM_cons]
    cases hl : lyCan l p with
    | false =>
      rw [hl] at hc
      exact .inl ⟨by simp [lyAdd, hl], by simp [spAdd, hc]⟩
    | true =>
      rw [hl] at hc
      have e1 : lyAdd l p = some (lyDo l p) := by simp [lyAdd, hl]
      have e2 : spAdd s p = some (spDo s p) := by simp [spAdd, hc]
      rw [e1, e2]
      exact ih (lyDo l p) (spDo s p) (n + 1) (do_rel R p hl) (lyOk_next hok hl) (by omega)
theorem sp_long : ∀ (plays : List S_Play) (s : SpSt) (n : Nat), SpOk s n → 28 < n + plays.length → plays.foldlM spAdd s = none := by
  intro plays s n h hlt
  cases hf : plays.foldlM spAdd s with
  | none => rfl
  | some s' => have := (spOk_fold plays s s' n h hf).le; omega
/-- Both sides answer for the same lists, with states that go together. -/
theorem both_read (plays : List S_Play) : (lyReadF plays = none ∧ spReadF plays = none) ∨ ∃ l s, lyReadF plays = some l ∧ spReadF plays = some s ∧ SpRel l s ∧ LyOk l plays.length ∧ plays.length ≤ 28 := by
  by_cases h : plays.length > 28
  · exact .inl ⟨by unfold lyReadF; rw [if_pos h], sp_long plays spS0 0 spOk_start (by omega)⟩
  · have hl : lyReadF plays = plays.foldlM lyAdd lyS0 := by unfold lyReadF; rw [if_neg h]
    rcases read_rel plays lyS0 spS0 0 spRel_start lyOk_start (by omega) with ⟨h1, h2⟩ | ⟨l, s, h1, h2, R⟩
    · exact .inl ⟨hl.trans h1, h2⟩
    · have h3 : lyReadF plays = some l := hl.trans h1
      exact .inr ⟨l, s, h3, h2, R, (lyOk_read h3).1, by omega⟩
end Go.Proofs.YtddgfphbbkjmpaaDoor.Pure
