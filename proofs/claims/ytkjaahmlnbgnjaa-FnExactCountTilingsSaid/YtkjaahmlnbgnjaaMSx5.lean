/- The walk by slots: regions that draw and change rows of the call's own that nothing in the region reads meanwhile. -/
import Derived.Test.YtkjaahmlnbgnjaaMSx4
namespace Go.Proofs.Ytkjaahmlnbgnjaa.Hd
open Go.RowKit Go.Proofs.YtkjaahmlnbgnjaaW.PrintWords Go.Proofs.YtkjaahmlnbgnjaaW.PrintLast Go.Proofs.YtkjaahmlnbgnjaaW.PrintMore
set_option linter.unusedVariables false
set_option linter.unusedSimpArgs false
section
variable {P : Program} {Q : Exit → Act → World → Prop} {N : Nat} {s : List (Nat × Value)} {W : World} {C : World → Prop} {ops : Array Oper} {l : List Oper} {K : Act → World → Prop} {a : Act}
/-- C: what every read leans on, all along; C1: what holds at the start. -/
theorem sx_drawT2 {id : Nat} {l : List Oper} (pre : List Nat) (t : STree) (k : Nat) (C1 : World → Prop) (h1C : ∀ W, C1 W → C W) (hm : P.follows .mixedOrders = true) (hB : treeAllB l pre t k = true) (hQ : ∀ d v c a w, Q (.panic c) (Act.put a d v) w → Q (.panic c) a w)
    (hC : ∀ W, C1 W → C1 W.drew) (hW : C1 W) (h' : preI P l.toArray l (fun a => ∀ W, C1 W → treeI P l.toArray Q C l (WL P l.toArray Q (l.drop k)) t a W) pre (fr N s)) : (Code.region id l.toArray true).wp P Q (fr N s) W := by
  simp only [treeAllB, Bool.and_eq_true, decide_eq_true_eq] at hB
  obtain ⟨⟨⟨⟨⟨⟨r1, hsel⟩, hb1⟩, hb3⟩, hb4⟩, hk⟩, hn⟩ := hB
  have hsz : l.toArray.size = l.length := by simp
  have h := preI_quiet pre r1 _ h'
  refine region_G (C := fun _ => True) (T := []) hm (fun hcl => ?_)
  have e1 : l.toArray.size = (t.depth + (l.length - k)) + pre.length := by rw [hsz]; omega
  have G1 := G_batch (P := P) (md := .any) (C := fun _ => True) (T := []) (Q := Q) hsel hQ (f := t.depth + (l.length - k)) (w := W.drew) trivial pre (pick l pre) (Array.replicate l.toArray.size false) (fr N s) (pick_map r1) hcl hb1 (wpQuiet_mono' (fun a1 h1 hcl1 => ?_) (pick l pre) (fr N s) h)
  · rw [← e1] at G1; exact G1
  · refine G_weaken (C := C) (T := List.range' k (l.length - k)) _ _ _ _ ?_
    rw [Nat.add_comm]
    refine (G_tree hsel hQ (fun a3 w3 hcl3 h3 => ?_) t _ a1 W.drew hcl1 (h1C _ (hC W hW)) (h1 W.drew (hC W hW))).1 hb3
    have hdl : (l.drop k).length = l.length - k := by simp
    rw [← hdl]
    refine G_tail (l.drop k) k _ a3 w3 (fun j => by simp [List.getElem?_drop]) (by rw [hdl]; exact hb4) (fun j hj => ?_) h3.out
    rw [hdl] at hj
    simp
    omega
end
section
variable {P : Program} {N : Nat} {s : List (Nat × Value)} {o : Oper} {W : World}
theorem row_Cn {α : Type} {d : Kd α} {e base : Nat} {A : Option Addr} {n c : Nat} {xs : List α} {F : Nat → Prop} (h : (row d e base (.slice A n c) xs F).ok W) : d.C W A n xs := by
  have q := (Kd.R_reads' h.1).1
  have r := row_C h
  rw [← q] at r
  exact r
end
end Go.Proofs.Ytkjaahmlnbgnjaa.Hd
