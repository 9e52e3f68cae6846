/- The walk by slots: more words (several rows that a callee has made, results of several parts). -/
import Derived.Test.YtokkiiepddhkiaaGreatDoorMSxR
namespace Go.Proofs.YtokkiiepddhkiaaGreatDoor.Hd
open Go.RowKit Go.Proofs.YtokkiiepddhkiaaGreatDoorW.PrintWords Go.Proofs.YtokkiiepddhkiaaGreatDoorW.PrintLast Go.Proofs.YtokkiiepddhkiaaGreatDoorW.PrintMore
set_option linter.unusedVariables false
section
variable {w0 W W' : World} {cs : List Chunk}
end
section
variable {P : Program} {N : Nat} {s : List (Nat × Value)} {W : World}
end
inductive STree where
  | fin : STree
  | rd (i : Nat) (t : STree) : STree
  | alt (i : Nat) (s t : STree) : STree
  | non : STree
def STree.depth : STree → Nat
  | .fin => 0
  | .rd _ t => t.depth + 1
  | .alt _ s _ => s.depth + 1
  | .non => 0
def STree.isNon : STree → Bool
  | .non => true
  | _ => false
section
variable {P : Program} {ops : Array Oper} {md : Region.Mode} {C : World → Prop} {Q : Exit → Act → World → Prop} {T : List Nat}
theorem wpOp_ev {j : Nat} {o : Oper} {a : Act} {w : World} {K : Act → World → Prop} (hj : ops[j]? = some o) (h : wpList P ops (evQ Q K) [o] a w) : wpOp P ops Q j K a w := by
  unfold wpOp
  simp only [hj]
  simp only [wpList] at h
  split
  · rename_i hw
    rw [if_pos hw] at h
    rcases h with h | ⟨h1, h2⟩
    · exact .inl (wp_evQ h)
    · exact .inr ⟨h1, h2⟩
  · rename_i hw
    rw [if_neg hw] at h
    exact h
def treeI (P : Program) (ops : Array Oper) (Q : Exit → Act → World → Prop) (C : World → Prop) (l : List Oper) (K : Act → World → Prop) : STree → Act → World → Prop
  | .fin, a, w => K a w
  | .rd i t, a, w => ∀ o, l[i]? = some o → wpQuiet P ops C (fun a' => treeI P ops Q C l K t a' w) [o] a
  | .alt i s t, a, w => (∀ o, l[i]? = some o → wpList P ops (evQ Q (fun a' w' => C w' ∧ treeI P ops Q C l K s a' w')) [o] a w) ∧ treeI P ops Q C l K t a w
  | .non, _, _ => True
def treeB (md : Region.Mode) (ops : Array Oper) (T : List Nat) (last : Array Bool) : Option (List Nat) → STree → Array Bool → Bool
  | q, .fin, listed => q.isNone && decide (listed = last)
  | q, .rd i t, listed => q.isNone && decide (i < ops.size) && batchB md ops T [i] listed && treeB md ops T last none t (listed.setIfInBounds i true)
  | q, .alt i s t, listed => match q.getD (Region.ready md ops listed) with
    | [] => false
    | j :: r => decide (j = i) && decide (i < ops.size) && (t.isNon || decide (t.depth = s.depth + 1)) && treeB md ops T last none s (listed.setIfInBounds i true) && treeB md ops T last (some r) t listed
  | q, .non, _ => match q with | some [] => true | _ => false
theorem G_tree {l : List Oper} {K : Act → World → Prop} {last : Array Bool} {g : Nat} (hsel : Region.noSelect l.toArray = true) (hQ : ∀ d v c a w, Q (.panic c) (Act.put a d v) w → Q (.panic c) a w) (hK : ∀ a w, Closed md l.toArray last → K a w → anyG P md l.toArray Q C T g last a w) :
    ∀ (t : STree) (listed : Array Bool) (a : Act) (w : World), Closed md l.toArray listed → C w → treeI P l.toArray Q C l K t a w →
      (treeB md l.toArray T last none t listed = true → anyG P md l.toArray Q C T (g + t.depth) listed a w) ∧
      (∀ r d, treeB md l.toArray T last (some r) t listed = true → (t.isNon = true ∨ t.depth = d + 1) → ∀ j ∈ r, j ∈ Region.ready md l.toArray listed → wpOp P l.toArray Q j (fun a' w' => (T.contains j = false → C w') ∧ anyG P md l.toArray Q C T (g + d) (listed.setIfInBounds j true) a' w') a w) := by
  intro t
  induction t with
  | fin =>
    intro listed a w hcl hC h
    refine ⟨fun hB => ?_, fun r d hB => by simp [treeB] at hB⟩
    have e : listed = last := by simpa [treeB] using hB
    subst e
    exact hK a w hcl h
  | rd i t ih =>
    intro listed a w hcl hC h
    refine ⟨fun hB => ?_, fun r d hB => by simp [treeB] at hB⟩
    simp only [treeB, Bool.and_eq_true, decide_eq_true_eq] at hB
    have hi : i < l.length := by simpa using hB.1.1.2
    have e : l[i]? = some l[i] := List.getElem?_eq_getElem hi
    have hG := G_batch (P := P) (md := md) (C := C) (T := T) (Q := Q) hsel hQ (f := g + t.depth) (w := w) hC [i] [l[i]] listed a (by simp [e]) hcl hB.1.2 (wpQuiet_mono' (fun a1 h1 hcl1 => (ih _ a1 w hcl1 hC h1).1 hB.2) [l[i]] a (h l[i] e))
    exact hG
  | non =>
    intro listed a w hcl hC h
    refine ⟨fun hB => by simp [treeB] at hB, fun r d hB hd j hj => ?_⟩
    cases r with
    | nil => cases hj
    | cons x r => simp [treeB] at hB
  | alt i s t ih1 ih2 =>
    intro listed a w hcl hC h
    have key : ∀ r0 d, treeB md l.toArray T last (some r0) (.alt i s t) listed = true → s.depth = d → ∀ j ∈ r0, j ∈ Region.ready md l.toArray listed → wpOp P l.toArray Q j (fun a' w' => (T.contains j = false → C w') ∧ anyG P md l.toArray Q C T (g + d) (listed.setIfInBounds j true) a' w') a w := by
      intro r0 d hB hd j hj hr
      cases r0 with
      | nil => cases hj
      | cons x r =>
        simp only [treeB, Option.getD_some, Bool.and_eq_true, decide_eq_true_eq, Bool.or_eq_true] at hB
        obtain ⟨⟨⟨⟨hx, hi⟩, hdt⟩, hb1⟩, hb2⟩ := hB
        subst hx
        have hi : x < l.length := by simpa using hi
        have ei : l[x]? = some l[x] := List.getElem?_eq_getElem hi
        rcases List.mem_cons.1 hj with rfl | hj
        · have hcl' := hcl.set hr
          refine wpOp_mono (fun a' w' h' => ⟨fun _ => h'.1, ?_⟩) (wpOp_ev (by rw [List.getElem?_toArray, ei]) (h.1 l[j] ei))
          have := (ih1 _ a' w' hcl' h'.1 h'.2).1 hb1
          rw [hd] at this
          exact this
        · exact (ih2 listed a w hcl hC h.2).2 r d hb2 (hdt.imp (fun q => q) (fun q => by omega)) j hj hr
    refine ⟨fun hB => ?_, fun r d hB hd => key r d hB (hd.elim (fun q => by simp [STree.isNon] at q) (fun q => by simpa [STree.depth] using q))⟩
    have hB' : treeB md l.toArray T last (some (Region.ready md l.toArray listed)) (.alt i s t) listed = true := by simpa [treeB] using hB
    refine ⟨fun h0 => ?_, fun j hj => key _ s.depth hB' rfl j hj hj⟩
    rw [h0] at hB'
    simp [treeB] at hB'
theorem treeI_mono {l : List Oper} {K K' : Act → World → Prop} (hK : ∀ a w, K a w → K' a w) : ∀ (t : STree) (a : Act) (w : World), treeI P ops Q C l K t a w → treeI P ops Q C l K' t a w := by
  intro t
  induction t with
  | fin => intro a w h; exact hK a w h
  | rd i t ih => intro a w h o ho; exact wpQuiet_mono' (fun a1 h1 => ih a1 w h1) [o] a (h o ho)
  | alt i s t ih1 ih2 => intro a w h; exact ⟨fun o ho => wpList_one_mono (fun a' w' h' => ⟨h'.1, ih1 a' w' h'.2⟩) (h.1 o ho), ih2 a w h.2⟩
  | non => intro a w _; trivial
end
section
variable {P : Program} {Q : Exit → Act → World → Prop} {N : Nat} {s : List (Nat × Value)} {W : World} {C : World → Prop} {ops : Array Oper} {l : List Oper} {K : Act → World → Prop} {a : Act}
theorem treeI_fin (h : K a W) : treeI P ops Q C l K .fin a W := h
theorem treeI_rd {i : Nat} {o : Oper} {t : STree} (ho : l[i]? = some o) (h : WQ P ops C (fun a' => treeI P ops Q C l K t a' W) [o] a) : treeI P ops Q C l K (.rd i t) a W :=
  fun o' ho' => by rw [ho] at ho'; injection ho' with e; exact e ▸ h.out
theorem treeI_ev {i : Nat} {o : Oper} {t : STree} (ho : l[i]? = some o) (h : WL P ops (evQ Q (fun a' w' => C w' ∧ treeI P ops Q C l K t a' w')) [o] a W) : treeI P ops Q C l K (.alt i t .non) a W :=
  ⟨fun o' ho' => by rw [ho] at ho'; injection ho' with e; exact e ▸ h.out, trivial⟩
theorem treeI_alt {i : Nat} {o : Oper} {u v : STree} (ho : l[i]? = some o) (h1 : WL P ops (evQ Q (fun a' w' => C w' ∧ treeI P ops Q C l K u a' w')) [o] a W) (h2 : treeI P ops Q C l K v a W) : treeI P ops Q C l K (.alt i u v) a W :=
  ⟨fun o' ho' => by rw [ho] at ho'; injection ho' with e; exact e ▸ h1.out, h2⟩
theorem treeI_non : treeI P ops Q C l K .non a W := trivial
def treeAllB (l : List Oper) (pre : List Nat) (t : STree) (k : Nat) : Bool :=
  let ops := l.toArray
  let T := List.range' k (l.length - k)
  let s1 := setAll pre (Array.replicate ops.size false)
  let s3 := (Array.range ops.size).map (fun i => decide (i < k))
  pre.all (fun i => decide (i < l.length)) && Region.noSelect ops && batchB .any ops [] pre (Array.replicate ops.size false) && treeB .any ops T s3 none t s1 && Region.seqB .any ops (l.length - k) k s3 && decide (k ≤ l.length) && decide (pre.length + t.depth + (l.length - k) = l.length)
theorem sx_drawT {id : Nat} {l : List Oper} (pre : List Nat) (t : STree) (k : Nat) (hm : P.follows .mixedOrders = true) (hB : treeAllB l pre t k = true) (hQ : ∀ d v c a w, Q (.panic c) (Act.put a d v) w → Q (.panic c) a w)
    (hC : ∀ W, C W → C W.drew) (hW : C W) (h' : preI P l.toArray l (fun a => ∀ W, C W → treeI P l.toArray Q C l (WL P l.toArray Q (l.drop k)) t a W) pre (fr N s)) : (Code.region id l.toArray true).wp P Q (fr N s) W := by
  simp only [treeAllB, Bool.and_eq_true, decide_eq_true_eq] at hB
  obtain ⟨⟨⟨⟨⟨⟨r1, hsel⟩, hb1⟩, hb3⟩, hb4⟩, hk⟩, hn⟩ := hB
  have hsz : l.toArray.size = l.length := by simp
  have h := preI_quiet pre r1 _ h'
  refine region_G (C := fun _ => True) (T := []) hm (fun hcl => ?_)
  have e1 : l.toArray.size = (t.depth + (l.length - k)) + pre.length := by rw [hsz]; omega
  have G1 := G_batch (P := P) (md := .any) (C := fun _ => True) (T := []) (Q := Q) hsel hQ (f := t.depth + (l.length - k)) (w := W.drew) trivial pre (pick l pre) (Array.replicate l.toArray.size false) (fr N s) (pick_map r1) hcl hb1 (wpQuiet_mono' (fun a1 h1 hcl1 => ?_) (pick l pre) (fr N s) h)
  · rw [← e1] at G1; exact G1
  · refine G_weaken (C := C) (T := List.range' k (l.length - k)) _ _ _ _ ?_
    rw [Nat.add_comm]
    refine (G_tree hsel hQ (fun a3 w3 hcl3 h3 => ?_) t _ a1 W.drew hcl1 (hC W hW) (h1 W.drew (hC W hW))).1 hb3
    have hdl : (l.drop k).length = l.length - k := by simp
    rw [← hdl]
    refine G_tail (l.drop k) k _ a3 w3 (fun j => by simp [List.getElem?_drop]) (by rw [hdl]; exact hb4) (fun j hj => ?_) h3.out
    rw [hdl] at hj
    simp
    omega
/-- The same, with a word on what holds ahead of the tail: the tail is walked once. -/
theorem sx_drawI {id : Nat} {l : List Oper} (I : Act → World → Prop) (pre : List Nat) (t : STree) (k : Nat) (hm : P.follows .mixedOrders = true) (hB : treeAllB l pre t k = true) (hQ : ∀ d v c a w, Q (.panic c) (Act.put a d v) w → Q (.panic c) a w)
    (hC : ∀ W, C W → C W.drew) (hW : C W) (h' : preI P l.toArray l (fun a => ∀ W, C W → treeI P l.toArray Q C l I t a W) pre (fr N s)) (hI : ∀ a W, I a W → WL P l.toArray Q (l.drop k) a W) : (Code.region id l.toArray true).wp P Q (fr N s) W := by
  refine sx_drawT pre t k hm hB hQ hC hW ?_
  have key : ∀ (pre : List Nat) (a : Act), preI P l.toArray l (fun a => ∀ W, C W → treeI P l.toArray Q C l I t a W) pre a → preI P l.toArray l (fun a => ∀ W, C W → treeI P l.toArray Q C l (WL P l.toArray Q (l.drop k)) t a W) pre a := by
    intro pre
    induction pre with
    | nil => intro a h W hW; exact treeI_mono hI t a W (h W hW)
    | cons i r ih => intro a h o ho; exact wpQuiet_mono' (fun a1 h1 => ih a1 h1) [o] a (h o ho)
  exact key pre _ h'
end
end Go.Proofs.YtokkiiepddhkiaaGreatDoor.Hd
