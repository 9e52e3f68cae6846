/- MostFives, the reference's search: plain. -/
import Derived.Test.YtlphnpinpflaaaaMLyFive
import Derived.Test.YtlphnpinpflaaaaMLyCan
namespace Go.Proofs.Ytlphnpinpflaaaa.Pure
open Go.RowKit Go.Proofs.Ytlphnpinpflaaaa.Hd Go.Proofs.YtlphnpinpflaaaaW.PrintWords Go.Proofs.YtlphnpinpflaaaaW.PrintLast
set_option linter.unusedVariables false
set_option linter.unusedSimpArgs false
theorem can_lt {s : LySt} {p : S_Play} (hc : lyCan s p = true) : s.ti.length < 28 := by
  unfold lyCan at hc
  simp only [Bool.and_eq_true, Bool.not_eq_true', decide_eq_false_iff_not] at hc
  have := hc.1.2
  omega
theorem lyForF_len (s : LySt) (hand : List S_Tile) (har : s.ar.length ≤ 100) : (lyForF s hand).length ≤ 10000 := by
  have h1 := forTo_len s (sortT hand) har (sortT hand).length (Nat.le_refl _)
  have h2 := sortT_len hand
  have h3 : forTo s (sortT hand) (sortT hand).length = lyForF s hand := by unfold forTo lyForF; rw [List.take_length]
  rw [h3] at h1
  omega
theorem lyForF_can {s : LySt} {hand : List S_Tile} {p : S_Play} (h : p ∈ lyForF s hand) : lyCan s p = true := by
  unfold lyForF at h
  obtain ⟨t, _, h⟩ := List.mem_flatMap.1 h
  unfold forTile armsTo at h
  exact (List.mem_filter.1 h).2
theorem lyFor_ok (s : LySt) (hand : List S_Tile) (n : Nat) (hok : LyOk s n) (i : Nat) (h : i < (lyForF s hand).length) : lyCan s (rd_Play (lyForF s hand) (i : Int)) = true ∧ LyOk (lyDo s (rd_Play (lyForF s hand) (i : Int))) (n + 1) ∧ n + 1 ≤ 28 := by
  have hm : rd_Play (lyForF s hand) (i : Int) ∈ lyForF s hand := by unfold rd_Play; simp [h]
  have hc := lyForF_can hm
  refine ⟨hc, lyOk_next hok hc, ?_⟩
  have := can_lt hc
  have := hok.ti
  omega
end Go.Proofs.Ytlphnpinpflaaaa.Pure
namespace Go.Proofs.Ytlphnpinpflaaaa.Pure
open Go.RowKit Go.Proofs.Ytlphnpinpflaaaa.Hd Go.Proofs.YtlphnpinpflaaaaW.PrintWords Go.Proofs.YtlphnpinpflaaaaW.PrintLast
set_option linter.unusedVariables false
set_option linter.unusedSimpArgs false
/-- A hand without a tile, sorted. -/
def lessT (hand : List S_Tile) (t : S_Tile) : List S_Tile := keepT [t] false (sortT hand)
def mostStep (f : LySt → List S_Tile → List S_Play × Int) (s : LySt) (hand : List S_Tile) (b : List S_Play × Int) (p : S_Play) : List S_Play × Int :=
  if (f (lyDo s p) (lessT hand p.f0)).2 + lyPointsF (lyDo s p) > b.2 then (p :: (f (lyDo s p) (lessT hand p.f0)).1, (f (lyDo s p) (lessT hand p.f0)).2 + lyPointsF (lyDo s p)) else b
def mostS : Nat → LySt → List S_Tile → List S_Play × Int
  | 0, _, _ => ([], 0)
  | d + 1, s, hand => (lyForF s hand).foldl (mostStep (mostS d) s hand) ([], 0)
def mostTo (d : Nat) (s : LySt) (hand : List S_Tile) (i : Nat) : List S_Play × Int := ((lyForF s hand).take i).foldl (mostStep (mostS (d - 1)) s hand) ([], 0)
theorem mostTo_next (d : Nat) (s : LySt) (hand : List S_Tile) (i : Nat) (h : i < (lyForF s hand).length) : mostTo d s hand (i + 1) = mostStep (mostS (d - 1)) s hand (mostTo d s hand i) (rd_Play (lyForF s hand) (i : Int)) := by
  unfold mostTo
  rw [List.take_succ_eq_append_getElem h, List.foldl_append]
  simp [rd_Play, h]
theorem lyForF_none {s : LySt} {n : Nat} (hok : LyOk s n) (h : 28 ≤ n) (hand : List S_Tile) : lyForF s hand = [] := by
  rcases Nat.eq_zero_or_pos (lyForF s hand).length with h0 | h0
  · exact List.eq_nil_of_length_eq_zero h0
  · have := (lyFor_ok s hand n hok 0 h0).2.2
    omega
theorem mostTo_all {d : Nat} {s : LySt} {n : Nat} (hok : LyOk s n) (h : 28 ≤ n + d) (hand : List S_Tile) : mostTo d s hand (lyForF s hand).length = mostS d s hand := by
  unfold mostTo
  rw [List.take_length]
  cases d with
  | zero => rw [lyForF_none hok (by omega)]; rfl
  | succ d => rfl
theorem fold_keeps {α β : Type} (I : β → Prop) (f : β → α → β) (l : List α) (b : β) (h0 : I b) (hs : ∀ b a, a ∈ l → I b → I (f b a)) : I (l.foldl f b) := by
  induction l generalizing b with
  | nil => exact h0
  | cons a l ih => exact ih (f b a) (hs b a (by simp) h0) (fun b a' ha hb => hs b a' (by simp [ha]) hb)
theorem mostS_bd : ∀ (d : Nat) (s : LySt) (n : Nat) (hand : List S_Tile), LyOk s n → 0 ≤ (mostS d s hand).2 ∧ (mostS d s hand).2 ≤ 1800 * (d : Int) ∧ (mostS d s hand).1.length ≤ d := by
  intro d
  induction d with
  | zero => intro s n hand _; simp [mostS]
  | succ d ih =>
    intro s n hand hok
    unfold mostS
    refine fold_keeps (fun b : List S_Play × Int => 0 ≤ b.2 ∧ b.2 ≤ 1800 * ((d + 1 : Nat) : Int) ∧ b.1.length ≤ d + 1) _ _ _ (by simp; omega) (fun b p hp hb => ?_)
    have hc := lyForF_can hp
    have hok2 := lyOk_next hok hc
    have hlt := can_lt hc
    have hti := hok.ti
    have h1 := ih (lyDo s p) (n + 1) (lessT hand p.f0) hok2
    have h2 := lyPointsF_bd hok2 (by omega)
    unfold mostStep
    split
    · refine ⟨?_, ?_, ?_⟩
      · show 0 ≤ _ + _; omega
      · show _ + _ ≤ _; omega
      · show (_ :: _).length ≤ _; simp; omega
    · exact hb
theorem mostTo_bd (d : Nat) (s : LySt) (n : Nat) (hand : List S_Tile) (hok : LyOk s n) (hd : 28 ≤ n + d) (i : Nat) : 0 ≤ (mostTo d s hand i).2 ∧ (mostTo d s hand i).2 ≤ 1800 * (d : Int) ∧ (mostTo d s hand i).1.length ≤ d := by
  unfold mostTo
  refine fold_keeps (fun b : List S_Play × Int => 0 ≤ b.2 ∧ b.2 ≤ 1800 * (d : Int) ∧ b.1.length ≤ d) _ _ _ (by simp; omega) (fun b p hp hb => ?_)
  have hc := lyForF_can (List.mem_of_mem_take hp)
  have hok2 := lyOk_next hok hc
  have hlt := can_lt hc
  have hti := hok.ti
  have h1 := mostS_bd (d - 1) (lyDo s p) (n + 1) (lessT hand p.f0) hok2
  have h2 := lyPointsF_bd hok2 (by omega)
  unfold mostStep
  split
  · refine ⟨?_, ?_, ?_⟩
    · show 0 ≤ _ + _; omega
    · show _ + _ ≤ _; omega
    · show (_ :: _).length ≤ _; simp; omega
  · exact hb
theorem those_ev (hand : List S_Tile) (t : S_Tile) (h : hand.length ≤ 1048576) : Ev (fun k => spec_tiThose.f k hand [t] false) (lessT hand t) := tiThose_ev hand [t] h (by simp) false
theorem lessT_len (hand : List S_Tile) (t : S_Tile) : (lessT hand t).length ≤ 100 := Nat.le_trans (keepT_len _ _ _) (sortT_len _)
end Go.Proofs.Ytlphnpinpflaaaa.Pure
