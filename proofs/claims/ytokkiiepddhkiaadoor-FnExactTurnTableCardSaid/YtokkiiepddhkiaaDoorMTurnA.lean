/- TurnTable: the inner range over slices.Backward, and what lies beside it. -/
import Derived.Test.YtokkiiepddhkiaaDoorMBack
import Derived.Laws.IdiomStrings
namespace Go.Proofs.YtokkiiepddhkiaaDoor.Hd
open Go Go.RowKit Go.Shelf
set_option linter.unusedVariables false
set_option linter.unusedSimpArgs false
attribute [local go_sem] Oper.semAt_some
/-- Blocks that lie as they lay. -/
def KeepL (K : List (Nat × Obj)) (W : World) : Prop := ∀ p ∈ K, W.heap[p.1]? = some p.2
theorem ownFrom_keepL {β : Type} {B : Nat} {K : List (Nat × Obj)} (hB : ∀ p ∈ K, p.1 < B) : OwnFrom B (fun (_ : β) W => KeepL K W) := fun s W W' row hs hg hr p hp =>
  (hg.block p.1 (Array.getElem?_eq_some_iff.1 (hs p hp)).1 (fun e => by have := (hr p.1 e.symm).1; have := hB p hp; omega)).trans (hs p hp)
theorem obj_not_row {W : World} {B : Nat} {o : Obj} {e : TypeId} {base size k : Nat} {v : Value} {xs : List Value} (h : W.heap[B]? = some o) (ho : ∀ cur, o ≠ .cells cur e (0, 0)) (hr : W.ownsRow base e size v k xs) : some B ≠ v.ownBlock := by
  rcases hr.2 with ⟨rfl, _⟩ | ⟨g, cap, cur, rfl, _, hgb, _⟩
  · simp [Value.ownBlock]
  · intro e'
    obtain rfl : B = g := by simpa [Value.ownBlock] using e'
    rw [h] at hgb
    injection hgb with hgb
    exact ho cur hgb
theorem keepL_step {W w1 : World} {K : List (Nat × Obj)} {Br e base k : Nat} {v v' : Value} {xs : List Value} {tmp : Obj} (hK : KeepL K W) (hne : ∀ p ∈ K, p.1 ≠ Br ∧ ∀ cur, p.2 ≠ .cells cur e (0, 0)) (hrow : W.ownsRow base e 1 v k xs) (hgrow : (W.alloc tmp).grownBy w1 v.ownBlock) : KeepL K (w1.setCell ⟨Br, 0, none⟩ v') := by
  intro p hp
  have h1 := hK p hp
  have hlt := (Array.getElem?_eq_some_iff.1 h1).1
  have h2 : (W.alloc tmp).heap[p.1]? = some p.2 := (Below.heap_alloc _ _ _ hlt).trans h1
  have h3 : w1.heap[p.1]? = some p.2 := (hgrow.block p.1 (Array.getElem?_eq_some_iff.1 h2).1 (obj_not_row h1 (hne p hp).2 hrow)).trans h2
  exact ((grownBy_setCell' w1 Br v').block p.1 (Array.getElem?_eq_some_iff.1 h3).1 (fun q => (hne p hp).1 (by injection q))).trans h3
theorem backK_step {W w1 : World} {Bs g Br e base k : Nat} {ts : TypeId} {v v' : Value} {xs : List Value} {tmp : Obj} (hts : ts ≠ e) (h1 : Bs ≠ Br) (h2 : g ≠ Br) (hg : ∃ cur T, W.heap[g]? = some (.cells cur T (0, 0)) ∧ T ≠ e) (hrow : W.ownsRow base e 1 v k xs) (hgrow : (W.alloc tmp).grownBy w1 v.ownBlock) : BackK Bs ts g W (w1.setCell ⟨Br, 0, none⟩ v') := by
  refine ⟨fun u q => ?_, fun cur T q => ?_⟩
  · have := keepL_step (K := [(Bs, .cells #[u] ts (0, 0))]) (v' := v') (fun p hp => by rw [List.mem_singleton] at hp; subst hp; exact q) (fun p hp => by rw [List.mem_singleton] at hp; subst hp; exact ⟨h1, fun cur e' => by injection e' with _ e'; exact hts e'⟩) hrow hgrow
    exact this _ List.mem_cons_self
  · obtain ⟨cur', T', q', hT⟩ := hg
    have e1 := q.symm.trans q'
    injection e1 with e1
    injection e1 with _ e2
    have := keepL_step (K := [(g, .cells cur T (0, 0))]) (v' := v') (fun p hp => by rw [List.mem_singleton] at hp; subst hp; exact q) (fun p hp => by rw [List.mem_singleton] at hp; subst hp; exact ⟨h2, fun cur e' => by injection e' with _ e'; exact hT (e2 ▸ e')⟩) hrow hgrow
    exact this _ List.mem_cons_self
theorem infoText : (Tryd.prog.info? 9).map (fun i => (i.zero, i.size, i.bytes)) = some (some (.string ⟨#[]⟩), 1, 16) := by kernel_rfl
theorem below_grown {w X x1 : World} {n g1 : Nat} {tmp : Obj} (h : Below n w X) (hn : n ≤ X.heap.size) (hg : (X.alloc tmp).grownBy x1 (some g1)) (h1 : n ≤ g1) : Below n w x1 :=
  (h.alloc hn tmp).grown hg (by simp; omega) (fun j e => by injection e with e; omega)
theorem infoByte : (Tryd.prog.info? 5).map (fun i => (i.zero, i.size, i.bytes)) = some (some (.int .u8 0), 1, 1) := by kernel_rfl
/-- A text's byte as a number. -/
def bB (r : ByteArray) (y : Nat) : Int := ((r.data.toList[y]?.getD 0).toNat : Int)
theorem bB_at {r : ByteArray} {y : Nat} (h : y < r.size) : Value.int .u8 ((r[y]'h).toNat : Int) = .int .u8 (bB r y) := by
  have e : r[y]'h = r.data.toList[y]?.getD 0 := by
    have h2 : y < r.data.size := h
    show r.data[y]'h2 = _
    rw [Array.getElem?_toList, Array.getElem?_eq_getElem h2]; rfl
  unfold bB
  rw [e]
end Go.Proofs.YtokkiiepddhkiaaDoor.Hd
