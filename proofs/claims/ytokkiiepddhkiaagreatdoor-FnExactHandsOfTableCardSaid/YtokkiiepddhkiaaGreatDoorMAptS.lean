/- spec.taNear, taSearch.put and look, with hands and what is found, by hand. -/
import Derived.Test.YtokkiiepddhkiaaGreatDoorPLayS
import Derived.Test.YtokkiiepddhkiaaGreatDoorMSxM
import Derived.Test.YtokkiiepddhkiaaGreatDoorMSx4
import Derived.Test.YtokkiiepddhkiaaGreatDoorMTileR
import Derived.Test.YtokkiiepddhkiaaGreatDoorG0
import Derived.Test.YtokkiiepddhkiaaGreatDoorG1
import Derived.Test.YtokkiiepddhkiaaGreatDoorMSxS
namespace Go.Proofs.YtokkiiepddhkiaaGreatDoor.Hd
open Go Go.RowKit Go.Proofs.YtokkiiepddhkiaaGreatDoorW.PrintWords Go.Proofs.YtokkiiepddhkiaaGreatDoorW.PrintLast Go.Proofs.YtokkiiepddhkiaaGreatDoorW.PrintMore
set_option linter.unusedVariables false
section
variable {P : Program} {N : Nat} {s : List (Nat × Value)} {o o2 : Oper} {rest : List Oper} {ops : Array Oper} {Q : Exit → Act → World → Prop} {W w0 : World} {cs : List Chunk} {α : Type}
theorem sx_blit (q : Nat) (hk : okB o q N = true) {hv : Value} {e : TypeId} (hr : ∀ W : World, (execOp (evl N s) o).run P W = .ok (.value (.slice (some ⟨W.heap.size, 0, none⟩) 1 1)) (W.alloc (.cells #[hv] e (0, 0)))) (hp : Hp w0 cs W)
    (h : ∀ g W', Hp w0 (blk g #[hv] e :: cs) W' → WL P ops Q rest (fr N ((q, .slice (some ⟨g, 0, none⟩) 1 1) :: s)) W') : WL P ops Q (o :: rest) (fr N s) W :=
  sx_val q _ hk (hr W) (h W.heap.size _ (hp.add (Mv.quiet (below_alloc (Below.refl _ _) _)) (blk _ _ _) (heap_alloc_new W _) (fun k hk => by have : k = W.heap.size := hk; omega)))
theorem sx_pushP (q2 : Nat) (hk2 : okB o2 q2 N = true) {di : Kd α} {ei e base g : Nat} {v hv : Value} {xs : List (List α)} {ys : List α} {F G : Nat → Prop} {T : TypeId}
    {S X : Operand} {t : TypeId} (z : Value) (bytes : Nat) (ho : o2.op = .call { callee := .builtin .append, args := #[S, X], argTypes := #[t, t] }) (ht : P.underlying t = some (.slice e)) (hinfo : (P.info? e).map (fun i => (i.zero, i.size, i.bytes)) = some (some z, 1, bytes)) (hz : z.cells.size = 1) (hb0 : 0 < bytes)
    (hs : evl N s S = v) (hx : evl N s X = .slice (some ⟨g, 0, none⟩) 1 1)
    (hbase : base ≤ W.heap.size) (hl : (xs.length + 1) * bytes ≤ 140737488355328) (hp : Hp w0 (rowS (Kd.slice ei di) e base v xs F :: row di ei base hv ys G :: blk g #[hv] T :: cs) W)
    (h : ∀ A' c' F' W', Hp w0 (rowS (Kd.slice ei di) e base (.slice A' (xs ++ [ys]).length c') (xs ++ [ys]) F' :: blk g #[hv] T :: cs) W' → WL P ops Q rest (fr N ((q2, .slice A' (xs ++ [ys]).length c') :: s)) W') : WL P ops Q (o2 :: rest) (fr N s) W := by
  refine ⟨?_⟩
  obtain ⟨h1, h2, h3⟩ := okB_spec hk2
  have hS := hp.at_ 0 _ rfl
  have hR := hp.at_ 1 _ rfl
  have hap : ∀ k, F k → G k → False := fun k a b => hp.ap 0 1 _ _ (by omega) rfl rfl k a b
  have hown : ∀ k, G k → some k ≠ v.ownBlock := fun k hk e => hap k (by obtain ⟨f, hf, _⟩ := hS.1; exact hf k e.symm) hk
  obtain ⟨f, hf, hT⟩ := Kd.S_tag hS.1 xs.length G (fun k hk hF => hap k hF hk)
  have hM : (Kd.slice ei di).M W base G ys [hv] := ⟨hv, rfl, hR.1⟩
  refine Kd.R_append_rows (Kd.tag f (Kd.slice ei di)) (Rr := fun x cs => x = (ys, xs.length) ∧ cs = [hv]) (w0 := W) (W := W) base h1 S X t e z bytes ho ht hinfo hz (Nat.lt_succ_self 0) hb0 v xs.zipIdx [(ys, xs.length)] (some ⟨g, 0, none⟩) 1 1 (fun k => F k ∨ G k ∨ W.heap.size ≤ k) G (by rw [fr_eval]; exact hs) (by rw [fr_eval]; exact hx)
    (Kd.R_mono hT (fun k hk => .inl hk)) ⟨rfl, by omega, fun _ => ⟨_, rfl, fun j p hj => ?_⟩⟩ (fun x cs hx => ?_) (fun k hk => ⟨.inr (.inl hk), hown k hk⟩) (fun k hk => .inr (.inr hk)) (Below.refl _ _) hbase (by rw [List.length_zipIdx]; exact hl) ?_
  · cases j with
    | succ j => simp at hj
    | zero =>
      injection hj with hj
      refine ⟨[hv], rfl, ⟨hj.symm, rfl⟩, fun i u hu => ?_⟩
      cases i with
      | succ i => simp at hu
      | zero =>
        injection hu with hu
        subst hu
        exact hp.cell 2 (by rfl) 0 _ rfl
  · obtain ⟨rfl, rfl⟩ := hx
    exact (Kd.slice ei di).M_mono (fun k hk => ⟨hk, hf k hk⟩) hM
  intro v1 w1 hr hB hG hat
  rw [← Kd.zip_snoc] at hr
  have hS1 : Kd.S (Kd.slice ei di) e w1 base (fun k => F k ∨ G k ∨ W.heap.size ≤ k) v1 (xs ++ [ys]) := ⟨f, hr⟩
  obtain ⟨A', c', rfl, hc'⟩ := Kd.S_reads hS1
  rw [h2, fr_put _ _ h3]
  refine (h A' c' (fun k => (F k ∨ G k ∨ W.heap.size ≤ k) ∧ base ≤ k ∧ k < w1.heap.size) w1 ?_).out
  exact hp.join.upd 0 _ (rowS (Kd.slice ei di) e base (.slice A' (xs ++ [ys]).length c') (xs ++ [ys]) (fun k => (F k ∨ G k ∨ W.heap.size ≤ k) ∧ base ≤ k ∧ k < w1.heap.size)) rfl ((Mv.of_grown hG).mono (fun k hk => .inl (by obtain ⟨f, hf, _⟩ := hS.1; exact hf k hk))) ⟨Kd.S_mono (Kd.S_bound hS1) (fun k hk => ⟨hk.1, hk.2.1, hk.2.2.1⟩), fun k hk => hk.2.2⟩ (fun k hk => hk.1.elim (fun a => .inl (.inl a)) (fun a => a.elim (fun b => .inl (.inr b)) .inr))
end
end Go.Proofs.YtokkiiepddhkiaaGreatDoor.Hd
namespace Go.Proofs.YtokkiiepddhkiaaGreatDoor.Hd
open Go.RowKit Go.Proofs.YtokkiiepddhkiaaGreatDoor.Pure Go.Proofs.YtokkiiepddhkiaaGreatDoorW.PrintWords Go.Proofs.YtokkiiepddhkiaaGreatDoorW.PrintLast Go.Proofs.YtokkiiepddhkiaaGreatDoorW.PrintMore
set_option linter.unusedVariables false
set_option linter.unusedSimpArgs false
def LookS (w0 : World) (d : Nat) : Prop := ∀ (W : World) (cs : List Chunk) (g gL : Nat) (w h : Int) (n : Nat) (b : List Int) (a : Nat) (c most : Int) (an : Bool) (C : List Int) (AG : Option Addr) (cG : Nat) (H : List S_Tile) (AH : Option Addr) (cH cL : Nat) (FL : Nat → Prop) (fd : List (List Int)) (Af : Option Addr) (cf : Nat) (Fd : Nat → Prop), 1 ≤ w → w ≤ 30 → 1 ≤ h → h ≤ 30 → w * h = (n : Int) → n ≤ 30 → b.length = n → C.length = n → C.length ≤ cG → (∀ W, Hp w0 cs W → Kd.C (Kd.int .i64) W AG C.length C) → H.length ≤ 1000 → H.length ≤ cH → (∀ W, Hp w0 cs W → Kd.C k55 W AH H.length H) → 0 ≤ c → c + P2 d ≤ 1099511627776 → (fd.length : Int) + P2 d ≤ 1099511627776 → fd.length ≤ cf → a ≤ n → n < a + d → Hp w0 (blk g #[.int .i64 w, .int .i64 h, .slice AG C.length cG, .bool an, .slice AH H.length cH, .slice (some ⟨gL, 0, none⟩) n cL, .slice Af fd.length cf, .int .i64 c, .int .i64 most] 52 :: row (Kd.int .u8) 5 w0.heap.size (.slice (some ⟨gL, 0, none⟩) n cL) b FL :: rowS (Kd.slice 5 (Kd.int .u8)) 49 w0.heap.size (.slice Af fd.length cf) fd Fd :: cs) W → Calls Tryz.prog 44 #[.pointer (some ⟨g, 0, none⟩), .int .i64 (a : Int)] W fun e W' => ∃ (FL' Fd' : Nat → Prop) (Af' : Option Addr) (cf' : Nat), e = .returned (.tuple #[]) ∧ (addF most fd ((lvs (nxS an C) w (n : Int) d b a H).map Prod.fst)).length ≤ cf' ∧ Hp w0 (blk g #[.int .i64 w, .int .i64 h, .slice AG C.length cG, .bool an, .slice AH H.length cH, .slice (some ⟨gL, 0, none⟩) n cL, .slice Af' ((addF most fd ((lvs (nxS an C) w (n : Int) d b a H).map Prod.fst)).length) cf', .int .i64 (c + (((lvs (nxS an C) w (n : Int) d b a H).map Prod.fst).length : Int)), .int .i64 most] 52 :: row (Kd.int .u8) 5 w0.heap.size (.slice (some ⟨gL, 0, none⟩) n cL) b FL' :: rowS (Kd.slice 5 (Kd.int .u8)) 49 w0.heap.size (.slice Af' ((addF most fd ((lvs (nxS an C) w (n : Int) d b a H).map Prod.fst)).length) cf') (addF most fd ((lvs (nxS an C) w (n : Int) d b a H).map Prod.fst)) Fd' :: cs) W'
def PutS (w0 : World) (d : Nat) : Prop := ∀ (W : World) (cs : List Chunk) (g gL : Nat) (w h : Int) (n : Nat) (b : List Int) (i : Nat) (j l l2 : Int) (c most : Int) (an : Bool) (C : List Int) (AG : Option Addr) (cG : Nat) (H : List S_Tile) (AH : Option Addr) (cH cL : Nat) (FL : Nat → Prop) (fd : List (List Int)) (Af : Option Addr) (cf : Nat) (Fd : Nat → Prop), 1 ≤ w → w ≤ 30 → 1 ≤ h → h ≤ 30 → w * h = (n : Int) → n ≤ 30 → b.length = n → C.length = n → C.length ≤ cG → (∀ W, Hp w0 cs W → Kd.C (Kd.int .i64) W AG C.length C) → H.length ≤ 1000 → H.length ≤ cH → (∀ W, Hp w0 cs W → Kd.C k55 W AH H.length H) → 0 ≤ c → c + P2 d ≤ 1099511627776 → (fd.length : Int) + P2 d ≤ 1099511627776 → fd.length ≤ cf → i < n → rd b (i : Int) = 0 → (-1 ≤ j ∧ j < n ∧ j ≠ i) → ((l = 101 ∧ l2 = 119) ∨ (l = 115 ∧ l2 = 110)) → n < i + 1 + d → Hp w0 (blk g #[.int .i64 w, .int .i64 h, .slice AG C.length cG, .bool an, .slice AH H.length cH, .slice (some ⟨gL, 0, none⟩) n cL, .slice Af fd.length cf, .int .i64 c, .int .i64 most] 52 :: row (Kd.int .u8) 5 w0.heap.size (.slice (some ⟨gL, 0, none⟩) n cL) b FL :: rowS (Kd.slice 5 (Kd.int .u8)) 49 w0.heap.size (.slice Af fd.length cf) fd Fd :: cs) W → Calls Tryz.prog 72 #[.pointer (some ⟨g, 0, none⟩), .int .i64 (i : Int), .int .i64 j, .int .u8 l] W fun e W' => ∃ (FL' Fd' : Nat → Prop) (Af' : Option Addr) (cf' : Nat), e = .returned (.tuple #[]) ∧ (addF most fd ((putL (nxS an C) (lvs (nxS an C) w (n : Int) d) b i j l l2 H).map Prod.fst)).length ≤ cf' ∧ Hp w0 (blk g #[.int .i64 w, .int .i64 h, .slice AG C.length cG, .bool an, .slice AH H.length cH, .slice (some ⟨gL, 0, none⟩) n cL, .slice Af' ((addF most fd ((putL (nxS an C) (lvs (nxS an C) w (n : Int) d) b i j l l2 H).map Prod.fst)).length) cf', .int .i64 (c + (((putL (nxS an C) (lvs (nxS an C) w (n : Int) d) b i j l l2 H).map Prod.fst).length : Int)), .int .i64 most] 52 :: row (Kd.int .u8) 5 w0.heap.size (.slice (some ⟨gL, 0, none⟩) n cL) b FL' :: rowS (Kd.slice 5 (Kd.int .u8)) 49 w0.heap.size (.slice Af' ((addF most fd ((putL (nxS an C) (lvs (nxS an C) w (n : Int) d) b i j l l2 H).map Prod.fst)).length) cf') (addF most fd ((putL (nxS an C) (lvs (nxS an C) w (n : Int) d) b i j l l2 H).map Prod.fst)) Fd' :: cs) W'
set_option maxRecDepth 100000 in
set_option maxHeartbeats 40000000 in
theorem near_sx {w0 W : World} {cs : List Chunk} (w h : Int) (n i : Nat) (AG : Option Addr) (nG cG : Nat) (hw1 : 1 ≤ w) (hw2 : w ≤ 30) (hh1 : 1 ≤ h) (hh2 : h ≤ 30) (hwh : w * h = (n : Int)) (hn : n ≤ 30) (hi : i < n) (hp : Hp w0 cs W) : Calls Tryz.prog 71 #[.agg #[.int .i64 w, .int .i64 h, .slice AG nG cG], .int .i64 (i : Int)] W fun e W' => e = .returned (.tuple #[.int .i64 (nearE w (i : Int)), .int .i64 (nearS w n (i : Int))]) ∧ Hp w0 cs W' := by
 refine sx_enter (N := 34) (l := [.agg #[.int .i64 w, .int .i64 h, .slice AG nG cG], .int .i64 (i : Int)]) Tryz.func71 rfl rfl rfl ?_
 refine wp_seq ?_
 refine sx_region ?_
 refine sx_box 2 hp #[.int .i64 w, .int .i64 h, .slice AG nG cG] 44 (by rfl) (fun W => by kernel_rfl) ?_
 intro g_1 W_2 hp
 refine sx_rd 4 (.int .i64 0) (by rfl) (by kernel_rfl) ?_
 refine sx_rd 5 (.int .i64 0) (by rfl) (by kernel_rfl) ?_
 refine sx_nil ?_
 refine ex_then_n ?_
 refine wp_seq ?_
 refine sx_region ?_
 refine sx_rd 6 (.int .i64 (-1)) (by rfl) (by kernel_rfl) ?_
 refine sx_rd 7 (.int .i64 (-1)) (by rfl) (by kernel_rfl) ?_
 refine sx_nil ?_
 refine ex_then_n ?_
 refine wp_seq ?_
 refine wp_seq ?_
 refine sx_drawT [0, 1, 4] (.rd 2 (.rd 3 (.rd 5 (.rd 6 (.rd 7 (.fin)))))) 8 (C := Hp w0 (blk g_1 #[.int .i64 w, .int .i64 h, .slice AG nG cG] 44 :: cs)) (by kernel_rfl) (by kernel_rfl) (fun d _ _ _ _ h => by cases d <;> exact h) (fun W h => h.drew) hp ?_
 refine preI_read rfl ?_
 refine sxq_val 8 (.int .i64 (i : Int)) (by rfl) (fun W _ => (by kernel_rfl)) ?_
 refine sxq_nil ?_
 refine preI_read rfl ?_
 refine sxq_val 9 (.pointer (some ⟨g_1, 0, none⟩)) (by rfl) (fun W _ => (by kernel_rfl)) ?_
 refine sxq_nil ?_
 refine preI_read rfl ?_
 refine sxq_val 12 (.pointer (some ⟨g_1, 0, none⟩)) (by rfl) (fun W _ => (by kernel_rfl)) ?_
 refine sxq_nil ?_
 refine preI_nil ?_
 intro W_3 hp
 refine treeI_rd rfl ?_
 refine sxq_val 10 (.int .i64 w) (by rfl) (fun W hp => (ld1 (t := 3) (p := (.tmp 9)) (by rfl) (by rfl) (by kernel_rfl) (hp.cell 0 (by rfl) 0 _ (by rfl)))) ?_
 refine sxq_nil ?_
 refine treeI_rd rfl ?_
 refine sxq_val 11 (.int .i64 ((i : Int) % w)) (by rfl) (fun W hp => (rem_run (by rfl) (by rfl) (by rfl) (by omega) (by omega))) ?_
 refine sxq_nil ?_
 refine treeI_rd rfl ?_
 refine sxq_val 13 (.int .i64 w) (by rfl) (fun W hp => (ld1 (t := 3) (p := (.tmp 12)) (by rfl) (by rfl) (by kernel_rfl) (hp.cell 0 (by rfl) 0 _ (by rfl)))) ?_
 refine sxq_nil ?_
 refine treeI_rd rfl ?_
 refine sxq_val 14 (.int .i64 (w - 1)) (by rfl) (fun W hp => (wr_ok (by omega) (by kernel_rfl))) ?_
 refine sxq_nil ?_
 refine treeI_rd rfl ?_
 refine sxq_val 15 (.bool (decide (((i : Int) % w) < (w - 1)))) (by rfl) (fun W hp => (by kernel_rfl)) ?_
 refine sxq_nil ?_
 refine treeI_fin ?_
 refine sx_nil ?_
 refine ex_then_n ?_
 refine sx_cond (decide (((i : Int) % w) < (w - 1))) (by rfl) (fun c_4 => ?_) (fun c_4 => ?_)
 ·
  have c_4p := of_decide_eq_true c_4
  refine sx_region ?_
  refine sx_rd 16 (.int .i64 (i : Int)) (by rfl) (by kernel_rfl) ?_
  refine sx_rd 17 (.int .i64 ((i : Int) + 1)) (by rfl) (wr_ok (by omega) (by kernel_rfl)) ?_
  refine sx_rd 6 (.int .i64 ((i : Int) + 1)) (by rfl) (by kernel_rfl) ?_
  refine sx_nil ?_
  refine ex_then_n ?_
  refine wp_seq ?_
  refine wp_seq ?_
  refine sx_region ?_
  refine sx_rd 18 (.int .i64 (i : Int)) (by rfl) (by kernel_rfl) ?_
  refine sx_rd 19 (.pointer (some ⟨g_1, 0, none⟩)) (by rfl) (by kernel_rfl) ?_
  refine sx_rd 20 (.int .i64 w) (by rfl) (ld1 (t := 3) (p := (.tmp 19)) (by rfl) (by rfl) (by kernel_rfl) (hp.cell 0 (by rfl) 0 _ (by rfl))) ?_
  refine sx_rd 21 (.int .i64 ((i : Int) + w)) (by rfl) (wr_ok (by omega) (by kernel_rfl)) ?_
  refine sx_rd 22 (.pointer (some ⟨g_1, 0, none⟩)) (by rfl) (by kernel_rfl) ?_
  refine sx_rd 23 (.int .i64 w) (by rfl) (ld1 (t := 3) (p := (.tmp 22)) (by rfl) (by rfl) (by kernel_rfl) (hp.cell 0 (by rfl) 0 _ (by rfl))) ?_
  refine sx_rd 24 (.pointer (some ⟨g_1, 1, none⟩)) (by rfl) (by kernel_rfl) ?_
  refine sx_rd 25 (.int .i64 h) (by rfl) (ld1 (t := 3) (p := (.tmp 24)) (by rfl) (by rfl) (by kernel_rfl) (hp.cell 0 (by rfl) 1 _ (by rfl))) ?_
  refine sx_rd 26 (.int .i64 (n : Int)) (by rfl) (mul_run (by rfl) (by rfl) (by rfl) hwh (by omega)) ?_
  refine sx_rd 27 (.bool (decide (((i : Int) + w) < (n : Int)))) (by rfl) (by kernel_rfl) ?_
  refine sx_nil ?_
  refine ex_then_n ?_
  refine sx_cond (decide (((i : Int) + w) < (n : Int))) (by rfl) (fun c_5 => ?_) (fun c_5 => ?_)
  ·
   have c_5p := of_decide_eq_true c_5
   refine sx_region ?_
   refine sx_rd 28 (.int .i64 (i : Int)) (by rfl) (by kernel_rfl) ?_
   refine sx_rd 29 (.pointer (some ⟨g_1, 0, none⟩)) (by rfl) (by kernel_rfl) ?_
   refine sx_rd 30 (.int .i64 w) (by rfl) (ld1 (t := 3) (p := (.tmp 29)) (by rfl) (by rfl) (by kernel_rfl) (hp.cell 0 (by rfl) 0 _ (by rfl))) ?_
   refine sx_rd 31 (.int .i64 ((i : Int) + w)) (by rfl) (wr_ok (by omega) (by kernel_rfl)) ?_
   refine sx_rd 7 (.int .i64 ((i : Int) + w)) (by rfl) (by kernel_rfl) ?_
   refine sx_nil ?_
   refine ex_then_n ?_
   refine wp_seq ?_
   refine sx_region ?_
   refine sx_rd 32 (.int .i64 ((i : Int) + 1)) (by rfl) (by kernel_rfl) ?_
   refine sx_rd 33 (.int .i64 ((i : Int) + w)) (by rfl) (by kernel_rfl) ?_
   refine sx_rd 4 (.int .i64 ((i : Int) + 1)) (by rfl) (by kernel_rfl) ?_
   refine sx_rd 5 (.int .i64 ((i : Int) + w)) (by rfl) (by kernel_rfl) ?_
   refine sx_nil ?_
   refine ex_then_n ?_
   refine wp_ret ?_
   refine sx_end (.tuple #[.int .i64 ((i : Int) + 1), .int .i64 ((i : Int) + w)]) (res2 4 5 (by rfl)) ?_
   have hE : nearE w (i : Int) = ((i : Int) + 1) := by unfold nearE; rw [if_pos (by omega)]
   have hS : nearS w n (i : Int) = ((i : Int) + w) := by unfold nearS; rw [if_pos (by omega)]
   exact ⟨by rw [hE, hS], hp.tail⟩
  ·
   have c_5p := of_decide_eq_false c_5
   refine wp_skip ?_
   refine ex_then_n ?_
   refine wp_seq ?_
   refine sx_region ?_
   refine sx_rd 32 (.int .i64 ((i : Int) + 1)) (by rfl) (by kernel_rfl) ?_
   refine sx_rd 33 (.int .i64 (-1)) (by rfl) (by kernel_rfl) ?_
   refine sx_rd 4 (.int .i64 ((i : Int) + 1)) (by rfl) (by kernel_rfl) ?_
   refine sx_rd 5 (.int .i64 (-1)) (by rfl) (by kernel_rfl) ?_
   refine sx_nil ?_
   refine ex_then_n ?_
   refine wp_ret ?_
   refine sx_end (.tuple #[.int .i64 ((i : Int) + 1), .int .i64 (-1)]) (res2 4 5 (by rfl)) ?_
   have hE : nearE w (i : Int) = ((i : Int) + 1) := by unfold nearE; rw [if_pos (by omega)]
   have hS : nearS w n (i : Int) = (-1) := by unfold nearS; rw [if_neg (by omega)]
   exact ⟨by rw [hE, hS], hp.tail⟩
 ·
  have c_4p := of_decide_eq_false c_4
  refine wp_skip ?_
  refine ex_then_n ?_
  refine wp_seq ?_
  refine wp_seq ?_
  refine sx_region ?_
  refine sx_rd 18 (.int .i64 (i : Int)) (by rfl) (by kernel_rfl) ?_
  refine sx_rd 19 (.pointer (some ⟨g_1, 0, none⟩)) (by rfl) (by kernel_rfl) ?_
  refine sx_rd 20 (.int .i64 w) (by rfl) (ld1 (t := 3) (p := (.tmp 19)) (by rfl) (by rfl) (by kernel_rfl) (hp.cell 0 (by rfl) 0 _ (by rfl))) ?_
  refine sx_rd 21 (.int .i64 ((i : Int) + w)) (by rfl) (wr_ok (by omega) (by kernel_rfl)) ?_
  refine sx_rd 22 (.pointer (some ⟨g_1, 0, none⟩)) (by rfl) (by kernel_rfl) ?_
  refine sx_rd 23 (.int .i64 w) (by rfl) (ld1 (t := 3) (p := (.tmp 22)) (by rfl) (by rfl) (by kernel_rfl) (hp.cell 0 (by rfl) 0 _ (by rfl))) ?_
  refine sx_rd 24 (.pointer (some ⟨g_1, 1, none⟩)) (by rfl) (by kernel_rfl) ?_
  refine sx_rd 25 (.int .i64 h) (by rfl) (ld1 (t := 3) (p := (.tmp 24)) (by rfl) (by rfl) (by kernel_rfl) (hp.cell 0 (by rfl) 1 _ (by rfl))) ?_
  refine sx_rd 26 (.int .i64 (n : Int)) (by rfl) (mul_run (by rfl) (by rfl) (by rfl) hwh (by omega)) ?_
  refine sx_rd 27 (.bool (decide (((i : Int) + w) < (n : Int)))) (by rfl) (by kernel_rfl) ?_
  refine sx_nil ?_
  refine ex_then_n ?_
  refine sx_cond (decide (((i : Int) + w) < (n : Int))) (by rfl) (fun c_6 => ?_) (fun c_6 => ?_)
  ·
   have c_6p := of_decide_eq_true c_6
   refine sx_region ?_
   refine sx_rd 28 (.int .i64 (i : Int)) (by rfl) (by kernel_rfl) ?_
   refine sx_rd 29 (.pointer (some ⟨g_1, 0, none⟩)) (by rfl) (by kernel_rfl) ?_
   refine sx_rd 30 (.int .i64 w) (by rfl) (ld1 (t := 3) (p := (.tmp 29)) (by rfl) (by rfl) (by kernel_rfl) (hp.cell 0 (by rfl) 0 _ (by rfl))) ?_
   refine sx_rd 31 (.int .i64 ((i : Int) + w)) (by rfl) (wr_ok (by omega) (by kernel_rfl)) ?_
   refine sx_rd 7 (.int .i64 ((i : Int) + w)) (by rfl) (by kernel_rfl) ?_
   refine sx_nil ?_
   refine ex_then_n ?_
   refine wp_seq ?_
   refine sx_region ?_
   refine sx_rd 32 (.int .i64 (-1)) (by rfl) (by kernel_rfl) ?_
   refine sx_rd 33 (.int .i64 ((i : Int) + w)) (by rfl) (by kernel_rfl) ?_
   refine sx_rd 4 (.int .i64 (-1)) (by rfl) (by kernel_rfl) ?_
   refine sx_rd 5 (.int .i64 ((i : Int) + w)) (by rfl) (by kernel_rfl) ?_
   refine sx_nil ?_
   refine ex_then_n ?_
   refine wp_ret ?_
   refine sx_end (.tuple #[.int .i64 (-1), .int .i64 ((i : Int) + w)]) (res2 4 5 (by rfl)) ?_
   have hE : nearE w (i : Int) = (-1) := by unfold nearE; rw [if_neg (by omega)]
   have hS : nearS w n (i : Int) = ((i : Int) + w) := by unfold nearS; rw [if_pos (by omega)]
   exact ⟨by rw [hE, hS], hp.tail⟩
  ·
   have c_6p := of_decide_eq_false c_6
   refine wp_skip ?_
   refine ex_then_n ?_
   refine wp_seq ?_
   refine sx_region ?_
   refine sx_rd 32 (.int .i64 (-1)) (by rfl) (by kernel_rfl) ?_
   refine sx_rd 33 (.int .i64 (-1)) (by rfl) (by kernel_rfl) ?_
   refine sx_rd 4 (.int .i64 (-1)) (by rfl) (by kernel_rfl) ?_
   refine sx_rd 5 (.int .i64 (-1)) (by rfl) (by kernel_rfl) ?_
   refine sx_nil ?_
   refine ex_then_n ?_
   refine wp_ret ?_
   refine sx_end (.tuple #[.int .i64 (-1), .int .i64 (-1)]) (res2 4 5 (by rfl)) ?_
   have hE : nearE w (i : Int) = (-1) := by unfold nearE; rw [if_neg (by omega)]
   have hS : nearS w n (i : Int) = (-1) := by unfold nearS; rw [if_neg (by omega)]
   exact ⟨by rw [hE, hS], hp.tail⟩
theorem backL_eq {l l2 : Int} (h : (l = 101 ∧ l2 = 119) ∨ (l = 115 ∧ l2 = 110)) : spec_taBack.f l = some l2 := by
 rcases h with ⟨rfl, rfl⟩ | ⟨rfl, rfl⟩ <;> rfl
set_option maxRecDepth 100000 in
set_option maxHeartbeats 40000000 in
theorem putS_of (w0 : World) (d : Nat) (hIH : LookS w0 d) : PutS w0 d := by
 intro W cs g gL w h n b i j l l2 c most an C AG cG H AH cH cL FL fd Af cf Fd hw1 hw2 hh1 hh2 hwh hn hbn hCn hcG hG hHn hcH hH hc0 hcb hfb hfc hi hbi hj hl hdn hp
 obtain ⟨hj1, hj2, hj3⟩ := hj
 have hil := idxT_lt (H := H) (t := (tilC C (i : Int) j))
 refine sx_enter (N := 100) (l := [.pointer (some ⟨g, 0, none⟩), .int .i64 (i : Int), .int .i64 j, .int .u8 l]) Tryz.func72 rfl rfl rfl ?_
 refine wp_seq ?_
 refine wp_seq ?_
 rcases Bool.eq_false_or_eq_true (decide (j < 0)) with c_1 | c_1
 ·
  have c_1p := of_decide_eq_true c_1
  refine sx_region ?_
  refine sx_rd 10 (.int .i64 j) (by rfl) (by kernel_rfl) ?_
  refine sx_rd 11 (.bool true) (by rfl) (bv c_1 (by kernel_rfl)) ?_
  refine sx_rd 12 (.bool true) (by rfl) (by kernel_rfl) ?_
  refine sx_skip 13 (by rfl) (by rfl) (by rfl) ?_
  refine sx_skip 14 (by rfl) (by rfl) (by rfl) ?_
  refine sx_skip 15 (by rfl) (by rfl) (by rfl) ?_
  refine sx_skip 16 (by rfl) (by rfl) (by rfl) ?_
  refine sx_skip 17 (by rfl) (by rfl) (by rfl) ?_
  refine sx_skip 18 (by rfl) (by rfl) (by rfl) ?_
  refine sx_skip 19 (by rfl) (by rfl) (by rfl) ?_
  refine sx_skip 20 (by rfl) (by rfl) (by rfl) ?_
  refine sx_rd 21 (.bool true) (by rfl) (by kernel_rfl) ?_
  refine sx_nil ?_
  refine ex_then_n ?_
  refine sx_then true (by rfl) rfl ?_
  refine wp_ret ?_
  refine ex_then_r ?_
  refine sx_end (.tuple #[]) (res0 (by rfl)) ?_
  have hpc : ((putL (nxS an C) (lvs (nxS an C) w (n : Int) d) b i j l l2 H).map Prod.fst) = [] := by rw [putL_miss (fun q => by omega)]; rfl
  rw [hpc, addF_nil, show c + ((([] : List (List Int)).length : Nat) : Int) = c by simp]
  exact ⟨_, _, _, _, rfl, hfc, (hp.take [0, 1, 2] 3 (by decide) (by simp))⟩
 ·
  have c_1p := of_decide_eq_false c_1
  refine sx_region ?_
  refine sx_rd 10 (.int .i64 j) (by rfl) (by kernel_rfl) ?_
  refine sx_rd 11 (.bool false) (by rfl) (bv c_1 (by kernel_rfl)) ?_
  refine sx_rd 12 (.bool false) (by rfl) (by kernel_rfl) ?_
  refine sx_want (by rfl) ?_
  refine sx_rd 13 (.pointer (some ⟨g, 0, none⟩)) (by rfl) (by kernel_rfl) ?_
  refine sx_want (by rfl) ?_
  refine sx_rd 14 (.pointer (some ⟨g, 0, none⟩)) (by rfl) (by kernel_rfl) ?_
  refine sx_want (by rfl) ?_
  refine sx_rd 15 (.pointer (some ⟨g, 5, none⟩)) (by rfl) (by kernel_rfl) ?_
  refine sx_want (by rfl) ?_
  refine sx_rd 16 (.slice (some ⟨gL, 0, none⟩) n cL) (by rfl) (ld1 (t := 49) (p := (.tmp 15)) (by rfl) (by rfl) (by kernel_rfl) (hp.cell 0 (by rfl) 5 _ (by rfl))) ?_
  refine sx_want (by rfl) ?_
  refine sx_rd 17 (.int .i64 j) (by rfl) (by kernel_rfl) ?_
  refine sx_want (by rfl) ?_
  refine sx_rd 18 (.pointer (some (adr (some ⟨gL, 0, none⟩) j 1))) (by rfl) (ix_run (d := (Kd.int .u8)) (row_Cn (hp.at_ 1 _ (by rfl))) (t := 49) (by rfl) (by rfl) (by rfl) Tryz.underlying49 (by kernel_rfl) (by omega) (by omega)) ?_
  refine sx_want (by rfl) ?_
  refine sx_rd 19 (.int .u8 (rd b j)) (by rfl) (ld1 (t := 5) (p := (.tmp 18)) (by rfl) (by rfl) (by kernel_rfl) (el_cell (d := (Kd.int .u8)) (row_C (hp.at_ 1 _ (by rfl))) 0 j (by omega) (by omega) (cells := [.int .u8 (rd b j)]) (fun cs h => h) 0 _ (by rfl))) ?_
  refine sx_want (by rfl) ?_
  refine sx_rd 20 (.bool ((rd b j) != 0)) (by rfl) (by kernel_rfl) ?_
  refine sx_rd 21 (.bool ((rd b j) != 0)) (by rfl) (by kernel_rfl) ?_
  refine sx_nil ?_
  refine ex_then_n ?_
  refine sx_cond ((rd b j) != 0) (by rfl) (fun c_2 => ?_) (fun c_2 => ?_)
  ·
   have c_2p := ne_of_bne_ c_2
   refine wp_ret ?_
   refine ex_then_r ?_
   refine sx_end (.tuple #[]) (res0 (by rfl)) ?_
   have hpc : ((putL (nxS an C) (lvs (nxS an C) w (n : Int) d) b i j l l2 H).map Prod.fst) = [] := by rw [putL_miss (fun q => by have q2 := c_2; simp at q2; exact q2 q.2)]; rfl
   rw [hpc, addF_nil, show c + ((([] : List (List Int)).length : Nat) : Int) = c by simp]
   exact ⟨_, _, _, _, rfl, hfc, (hp.take [0, 1, 2] 3 (by decide) (by simp))⟩
  ·
   have c_2p := eq_of_bne_ c_2
   refine wp_skip ?_
   refine ex_then_n ?_
   refine wp_seq ?_
   refine sx_region ?_
   refine sx_rd 22 (.pointer (some ⟨g, 0, none⟩)) (by rfl) (by kernel_rfl) ?_
   refine sx_rd 23 (.pointer (some ⟨g, 0, none⟩)) (by rfl) (by kernel_rfl) ?_
   refine sx_rd 24 (.pointer (some ⟨g, 4, none⟩)) (by rfl) (by kernel_rfl) ?_
   refine sx_rd 25 (.slice AH H.length cH) (by rfl) (ld1 (t := 27) (p := (.tmp 24)) (by rfl) (by rfl) (by kernel_rfl) (hp.cell 0 (by rfl) 4 _ (by rfl))) ?_
   refine sx_rd 8 (.slice AH H.length cH) (by rfl) (by kernel_rfl) ?_
   refine sx_nil ?_
   refine ex_then_n ?_
   refine wp_seq ?_
   refine wp_seq ?_
   refine sx_region ?_
   refine sx_rd 26 (.pointer (some ⟨g, 0, none⟩)) (by rfl) (by kernel_rfl) ?_
   refine sx_rd 27 (.pointer (some ⟨g, 0, none⟩)) (by rfl) (by kernel_rfl) ?_
   refine sx_rd 28 (.pointer (some ⟨g, 3, none⟩)) (by rfl) (by kernel_rfl) ?_
   refine sx_rd 29 (.bool an) (by rfl) (ld1 (t := 4) (p := (.tmp 28)) (by rfl) (by rfl) (by kernel_rfl) (hp.cell 0 (by rfl) 3 _ (by rfl))) ?_
   refine sx_rd 30 (.bool (!an)) (by rfl) (by kernel_rfl) ?_
   refine sx_nil ?_
   refine ex_then_n ?_
   refine sx_cond (!an) (by rfl) (fun c_3 => ?_) (fun c_3 => ?_)
   ·
    refine wp_seq ?_
    refine sx_drawT [0, 1, 2, 3, 4, 6, 9, 10, 11, 12, 14] (.rd 5 (.rd 7 (.rd 8 (.rd 13 (.rd 15 (.rd 16 (.alt 17 (.alt 18 (.rd 19 (.fin)) .non) .non))))))) 20 (C := Hp w0 (blk g #[.int .i64 w, .int .i64 h, .slice AG C.length cG, .bool an, .slice AH H.length cH, .slice (some ⟨gL, 0, none⟩) n cL, .slice Af fd.length cf, .int .i64 c, .int .i64 most] 52 :: row (Kd.int .u8) 5 w0.heap.size (.slice (some ⟨gL, 0, none⟩) n cL) b FL :: rowS (Kd.slice 5 (Kd.int .u8)) 49 w0.heap.size (.slice Af fd.length cf) fd Fd :: cs)) (by kernel_rfl) (by kernel_rfl) (fun d _ _ _ _ h => by cases d <;> exact h) (fun W h => h.drew) hp ?_
    refine preI_read rfl ?_
    refine sxq_val 31 (.slice AH H.length cH) (by rfl) (fun W _ => (by kernel_rfl)) ?_
    refine sxq_nil ?_
    refine preI_read rfl ?_
    refine sxq_val 32 (.pointer (some ⟨g, 0, none⟩)) (by rfl) (fun W _ => (by kernel_rfl)) ?_
    refine sxq_nil ?_
    refine preI_read rfl ?_
    refine sxq_val 33 (.pointer (some ⟨g, 0, none⟩)) (by rfl) (fun W _ => (by kernel_rfl)) ?_
    refine sxq_nil ?_
    refine preI_read rfl ?_
    refine sxq_val 34 (.pointer (some ⟨g, 0, none⟩)) (by rfl) (fun W _ => (by kernel_rfl)) ?_
    refine sxq_nil ?_
    refine preI_read rfl ?_
    refine sxq_val 35 (.pointer (some ⟨g, 2, none⟩)) (by rfl) (fun W _ => (by kernel_rfl)) ?_
    refine sxq_nil ?_
    refine preI_read rfl ?_
    refine sxq_val 37 (.int .i64 (i : Int)) (by rfl) (fun W _ => (by kernel_rfl)) ?_
    refine sxq_nil ?_
    refine preI_read rfl ?_
    refine sxq_val 40 (.pointer (some ⟨g, 0, none⟩)) (by rfl) (fun W _ => (by kernel_rfl)) ?_
    refine sxq_nil ?_
    refine preI_read rfl ?_
    refine sxq_val 41 (.pointer (some ⟨g, 0, none⟩)) (by rfl) (fun W _ => (by kernel_rfl)) ?_
    refine sxq_nil ?_
    refine preI_read rfl ?_
    refine sxq_val 42 (.pointer (some ⟨g, 0, none⟩)) (by rfl) (fun W _ => (by kernel_rfl)) ?_
    refine sxq_nil ?_
    refine preI_read rfl ?_
    refine sxq_val 43 (.pointer (some ⟨g, 2, none⟩)) (by rfl) (fun W _ => (by kernel_rfl)) ?_
    refine sxq_nil ?_
    refine preI_read rfl ?_
    refine sxq_val 45 (.int .i64 j) (by rfl) (fun W _ => (by kernel_rfl)) ?_
    refine sxq_nil ?_
    refine preI_nil ?_
    intro W_4 hp
    refine treeI_rd rfl ?_
    refine sxq_val 36 (.slice AG C.length cG) (by rfl) (fun W hp => (ld1 (t := 42) (p := (.tmp 35)) (by rfl) (by rfl) (by kernel_rfl) (hp.cell 0 (by rfl) 2 _ (by rfl)))) ?_
    refine sxq_nil ?_
    refine treeI_rd rfl ?_
    refine sxq_val 38 (.pointer (some (adr AG (i : Int) 1))) (by rfl) (fun W hp => (ix_run (d := (Kd.int .i64)) (hG _ hp.tail.tail.tail) (t := 42) (by rfl) (by rfl) (by rfl) Tryz.underlying42 (by kernel_rfl) (by omega) (by omega))) ?_
    refine sxq_nil ?_
    refine treeI_rd rfl ?_
    refine sxq_val 39 (.int .i64 (rd C (i : Int))) (by rfl) (fun W hp => (ld1 (t := 3) (p := (.tmp 38)) (by rfl) (by rfl) (by kernel_rfl) (el_cell (d := (Kd.int .i64)) (hG _ hp.tail.tail.tail) 0 (i : Int) (by omega) (by omega) (cells := [.int .i64 (rd C (i : Int))]) (fun cs h => h) 0 _ (by rfl)))) ?_
    refine sxq_nil ?_
    refine treeI_rd rfl ?_
    refine sxq_val 44 (.slice AG C.length cG) (by rfl) (fun W hp => (ld1 (t := 42) (p := (.tmp 43)) (by rfl) (by rfl) (by kernel_rfl) (hp.cell 0 (by rfl) 2 _ (by rfl)))) ?_
    refine sxq_nil ?_
    refine treeI_rd rfl ?_
    refine sxq_val 46 (.pointer (some (adr AG j 1))) (by rfl) (fun W hp => (ix_run (d := (Kd.int .i64)) (hG _ hp.tail.tail.tail) (t := 42) (by rfl) (by rfl) (by rfl) Tryz.underlying42 (by kernel_rfl) (by omega) (by omega))) ?_
    refine sxq_nil ?_
    refine treeI_rd rfl ?_
    refine sxq_val 47 (.int .i64 (rd C j)) (by rfl) (fun W hp => (ld1 (t := 3) (p := (.tmp 46)) (by rfl) (by rfl) (by kernel_rfl) (el_cell (d := (Kd.int .i64)) (hG _ hp.tail.tail.tail) 0 j (by omega) (by omega) (cells := [.int .i64 (rd C j)]) (fun cs h => h) 0 _ (by rfl)))) ?_
    refine sxq_nil ?_
    refine treeI_ev rfl ?_
    refine sx_call 48 (by rfl) (by kernel_rfl) ((spec_tiOf.calls (rd C (i : Int)) (rd C j) _ _ _ (tiOf_tilC C (i : Int) j)).mono ?_)
    rintro _ W_5 ⟨rfl, hb⟩
    refine ⟨_, rfl, ?_⟩
    replace hp := hp.below hb
    clear hb
    refine step_fin hp ?_
    refine treeI_ev rfl ?_
    obtain ⟨k_6, hk_k_6⟩ := Ev.rounds (tiPlace_ev H (by omega) (tilC C (i : Int) j))
    refine sx_call 49 (by rfl) (by kernel_rfl) ((spec_tiPlace.calls k_6 AH cH H ((tilC C (i : Int) j).f0) ((tilC C (i : Int) j).f1) _ _ (hH _ hp.tail.tail.tail) hcH hk_k_6).mono ?_)
    rintro _ W_7 ⟨rfl, hb⟩
    refine ⟨_, rfl, ?_⟩
    replace hp := hp.below hb
    clear hb
    refine step_fin hp ?_
    refine treeI_rd rfl ?_
    refine sxq_val 9 (.int .i64 (idxT H (tilC C (i : Int) j))) (by rfl) (fun W hp => (by kernel_rfl)) ?_
    refine sxq_nil ?_
    refine treeI_fin ?_
    refine sx_nil ?_
    refine ex_then_n ?_
    refine wp_seq ?_
    refine wp_seq ?_
    refine sx_region ?_
    refine sx_rd 50 (.int .i64 (idxT H (tilC C (i : Int) j))) (by rfl) (by kernel_rfl) ?_
    refine sx_rd 51 (.bool (decide ((idxT H (tilC C (i : Int) j)) < 0))) (by rfl) (by kernel_rfl) ?_
    refine sx_nil ?_
    refine ex_then_n ?_
    refine sx_cond (decide ((idxT H (tilC C (i : Int) j)) < 0)) (by rfl) (fun c_8 => ?_) (fun c_8 => ?_)
    ·
     have c_8p := of_decide_eq_true c_8
     refine wp_ret ?_
     refine ex_then_r (ex_then_r ?_)
     refine sx_end (.tuple #[]) (res0 (by rfl)) ?_
     have hit : 0 ≤ j ∧ rd b j = 0 := ⟨by omega, by simpa using c_2⟩
     have hnx : nxS an C H i (j).toNat = none := by unfold nxS; rw [if_neg (by rw [show an = false from (not_eq c_3)]; simp), Int.toNat_of_nonneg hit.1, if_neg (fun q => idxT_mem.2 q c_8p)]
     have hpc : ((putL (nxS an C) (lvs (nxS an C) w (n : Int) d) b i j l l2 H).map Prod.fst) = [] := by rw [putL_hit hit.1 hit.2, hnx]; rfl
     rw [hpc, addF_nil, show c + ((([] : List (List Int)).length : Nat) : Int) = c by simp]
     exact ⟨_, _, _, _, rfl, hfc, (hp.take [0, 1, 2] 3 (by decide) (by simp))⟩
    ·
     have c_8p := of_decide_eq_false c_8
     refine wp_skip ?_
     refine ex_then_n ?_
     refine sx_drawI (fun a_ W => ∃ (r_ : List (Nat × Value)) (Am_23 : Option Addr) (cm_24 : Nat) (Fm_25 : Nat → Prop), a_ = fr 100 ([(0, .pointer (some ⟨g, 0, none⟩)), (1, .int .i64 (i : Int)), (2, .int .i64 j), (3, .int .u8 l), (8, .slice AH H.length cH), (62, .slice Am_23 (((H.take ((idxT H (tilC C (i : Int) j))).toNat) ++ (H.drop (((idxT H (tilC C (i : Int) j))).toNat + 1))).length) cm_24), (64, .pointer (some ⟨g, 4, none⟩))] ++ r_) ∧ Hp w0 (row k55 55 w0.heap.size (.slice Am_23 (((H.take ((idxT H (tilC C (i : Int) j))).toNat) ++ (H.drop (((idxT H (tilC C (i : Int) j))).toNat + 1))).length) cm_24) ((H.take ((idxT H (tilC C (i : Int) j))).toNat) ++ (H.drop (((idxT H (tilC C (i : Int) j))).toNat + 1))) Fm_25 :: blk g #[.int .i64 w, .int .i64 h, .slice AG C.length cG, .bool an, .slice AH H.length cH, .slice (some ⟨gL, 0, none⟩) n cL, .slice Af fd.length cf, .int .i64 c, .int .i64 most] 52 :: row (Kd.int .u8) 5 w0.heap.size (.slice (some ⟨gL, 0, none⟩) n cL) b FL :: rowS (Kd.slice 5 (Kd.int .u8)) 49 w0.heap.size (.slice Af fd.length cf) fd Fd :: cs) W) [0, 2, 3, 6, 7, 8] (.alt 1 (.alt 4 (.alt 5 (.alt 9 (.alt 10 (.rd 11 (.rd 12 (.fin))) .non) .non) (.alt 9 (.alt 5 (.alt 10 (.rd 11 (.rd 12 (.fin))) .non) .non) (.non))) (.alt 9 (.alt 4 (.alt 5 (.alt 10 (.rd 11 (.rd 12 (.fin))) .non) .non) .non) (.non))) (.alt 4 (.alt 1 (.alt 5 (.alt 9 (.alt 10 (.rd 11 (.rd 12 (.fin))) .non) .non) (.alt 9 (.alt 5 (.alt 10 (.rd 11 (.rd 12 (.fin))) .non) .non) (.non))) (.alt 9 (.alt 1 (.alt 5 (.alt 10 (.rd 11 (.rd 12 (.fin))) .non) .non) .non) (.non))) (.alt 9 (.alt 1 (.alt 4 (.alt 5 (.alt 10 (.rd 11 (.rd 12 (.fin))) .non) .non) .non) (.alt 4 (.alt 1 (.alt 5 (.alt 10 (.rd 11 (.rd 12 (.fin))) .non) .non) .non) (.non))) (.non)))) 13 (C := Hp w0 (blk g #[.int .i64 w, .int .i64 h, .slice AG C.length cG, .bool an, .slice AH H.length cH, .slice (some ⟨gL, 0, none⟩) n cL, .slice Af fd.length cf, .int .i64 c, .int .i64 most] 52 :: row (Kd.int .u8) 5 w0.heap.size (.slice (some ⟨gL, 0, none⟩) n cL) b FL :: rowS (Kd.slice 5 (Kd.int .u8)) 49 w0.heap.size (.slice Af fd.length cf) fd Fd :: cs)) (by kernel_rfl) (by kernel_rfl) (fun d _ _ _ _ h => by cases d <;> exact h) (fun W h => h.drew) hp ?_ ?_
     ·
      refine preI_read rfl ?_
      refine sxq_val 52 (.pointer (some ⟨g, 0, none⟩)) (by rfl) (fun W _ => (by kernel_rfl)) ?_
      refine sxq_nil ?_
      refine preI_read rfl ?_
      refine sxq_val 54 (.slice AH H.length cH) (by rfl) (fun W _ => (by kernel_rfl)) ?_
      refine sxq_nil ?_
      refine preI_read rfl ?_
      refine sxq_val 55 (.int .i64 (idxT H (tilC C (i : Int) j))) (by rfl) (fun W _ => (by kernel_rfl)) ?_
      refine sxq_nil ?_
      refine preI_read rfl ?_
      refine sxq_val 58 (.slice AH H.length cH) (by rfl) (fun W _ => (by kernel_rfl)) ?_
      refine sxq_nil ?_
      refine preI_read rfl ?_
      refine sxq_val 59 (.int .i64 (idxT H (tilC C (i : Int) j))) (by rfl) (fun W _ => (by kernel_rfl)) ?_
      refine sxq_nil ?_
      refine preI_read rfl ?_
      refine sxq_val 60 (.int .i64 ((idxT H (tilC C (i : Int) j)) + 1)) (by rfl) (fun W _ => (wr_ok (by omega) (by kernel_rfl))) ?_
      refine sxq_nil ?_
      refine preI_nil ?_
      intro W_9 hp
      refine treeI_alt rfl ?_ ?_
      ·
       refine sx_lit 53 (by rfl) k55 w0.heap.size 55 ([] : List S_Tile) [] (fun W => by kernel_rfl) (Reps.none _ _) (by simp) hp.size hp ?_
       intro g_10 F_11 W_12 hp hz; clear hz
       refine step_fin hp.tail ?_
       refine treeI_alt rfl ?_ ?_
       ·
        have hcap_13 : H.length ≤ cH := hcH
        refine sx_rd 56 (.slice AH ((H.take ((idxT H (tilC C (i : Int) j))).toNat).length) cH) (by rfl) (sl_hi ((idxT H (tilC C (i : Int) j))).toNat (sz := 2) (xs := H) (by rfl) (by rfl) (by rfl) (by omega) Tryz.underlying27 (by kernel_rfl) (by omega) hcap_13) ?_
        refine step_fin hp.tail ?_
        refine treeI_alt rfl ?_ ?_
        ·
         refine sx_append 57 (by rfl) k55 0 (by rfl) (.agg #[.int .i64 0, .int .i64 0]) 16 (by rfl) Tryz.underlying27 (by kernel_rfl) rfl (by decide) (by decide) (H.take ((idxT H (tilC C (i : Int) j))).toNat) (by rfl) (by rfl) (Kd.C_take (hH _ hp.tail.tail.tail.tail) (by omega)) tile_kp hp.size (by first | omega | (simp; done) | (simp; omega)) hp ?_
         intro A_14 c_15 F_16 W_17 hp hz; clear hz; simp only [List.set_cons_succ, List.set_cons_zero] at hp
         refine step_fin hp.tail ?_
         refine treeI_ev rfl ?_
         have hcap_18 : H.length ≤ cH := hcH
         refine sx_rd 61 (.slice (if cH = (((idxT H (tilC C (i : Int) j))).toNat + 1) then AH else Option.map (fun x => x.add ((((idxT H (tilC C (i : Int) j))).toNat + 1) * 2)) AH) ((H.drop (((idxT H (tilC C (i : Int) j))).toNat + 1)).length) (cH - (((idxT H (tilC C (i : Int) j))).toNat + 1))) (by rfl) (sl_lo (((idxT H (tilC C (i : Int) j))).toNat + 1) (sz := 2) (xs := H) (by rfl) (by rfl) (by rfl) (by omega) Tryz.underlying27 (by kernel_rfl) (by omega)) ?_
         refine step_fin hp.tail ?_
         refine treeI_ev rfl ?_
         refine sx_append 62 (by rfl) k55 0 (by rfl) (.agg #[.int .i64 0, .int .i64 0]) 16 (by rfl) Tryz.underlying27 (by kernel_rfl) rfl (by decide) (by decide) (H.drop (((idxT H (tilC C (i : Int) j))).toNat + 1)) (by rfl) (by rfl) (Kd.C_drop (hH _ hp.tail.tail.tail.tail) (by omega) hcap_18) tile_kp hp.size (by first | omega | (simp; done) | (simp; omega)) hp ?_
         intro A_19 c_20 F_21 W_22 hp hz; clear hz; simp only [List.set_cons_succ, List.set_cons_zero] at hp
         refine step_fin hp.tail ?_
         refine treeI_rd rfl ?_
         refine sxq_val 63 (.pointer (some ⟨g, 0, none⟩)) (by rfl) (fun W hp => (by kernel_rfl)) ?_
         refine sxq_nil ?_
         refine treeI_rd rfl ?_
         refine sxq_val 64 (.pointer (some ⟨g, 4, none⟩)) (by rfl) (fun W hp => (by kernel_rfl)) ?_
         refine sxq_nil ?_
         refine treeI_fin ?_
         exact ⟨_, A_19, c_20, F_21, fr_front [(0, .pointer (some ⟨g, 0, none⟩)), (1, .int .i64 (i : Int)), (2, .int .i64 j), (3, .int .u8 l), (8, .slice AH H.length cH), (62, .slice A_19 (((H.take ((idxT H (tilC C (i : Int) j))).toNat) ++ (H.drop (((idxT H (tilC C (i : Int) j))).toNat + 1))).length) c_20), (64, .pointer (some ⟨g, 4, none⟩))] ⟨rfl, rfl, rfl, rfl, rfl, rfl, rfl, trivial⟩, (hp.take [0, 1, 2, 3] 4 (by decide) (by simp))⟩
        refine treeI_alt rfl ?_ ?_
        ·
         have hcap_26 : H.length ≤ cH := hcH
         refine sx_rd 61 (.slice (if cH = (((idxT H (tilC C (i : Int) j))).toNat + 1) then AH else Option.map (fun x => x.add ((((idxT H (tilC C (i : Int) j))).toNat + 1) * 2)) AH) ((H.drop (((idxT H (tilC C (i : Int) j))).toNat + 1)).length) (cH - (((idxT H (tilC C (i : Int) j))).toNat + 1))) (by rfl) (sl_lo (((idxT H (tilC C (i : Int) j))).toNat + 1) (sz := 2) (xs := H) (by rfl) (by rfl) (by rfl) (by omega) Tryz.underlying27 (by kernel_rfl) (by omega)) ?_
         refine step_fin hp.tail ?_
         refine treeI_ev rfl ?_
         refine sx_append 57 (by rfl) k55 0 (by rfl) (.agg #[.int .i64 0, .int .i64 0]) 16 (by rfl) Tryz.underlying27 (by kernel_rfl) rfl (by decide) (by decide) (H.take ((idxT H (tilC C (i : Int) j))).toNat) (by rfl) (by rfl) (Kd.C_take (hH _ hp.tail.tail.tail.tail) (by omega)) tile_kp hp.size (by first | omega | (simp; done) | (simp; omega)) hp ?_
         intro A_27 c_28 F_29 W_30 hp hz; clear hz; simp only [List.set_cons_succ, List.set_cons_zero] at hp
         refine step_fin hp.tail ?_
         refine treeI_ev rfl ?_
         refine sx_append 62 (by rfl) k55 0 (by rfl) (.agg #[.int .i64 0, .int .i64 0]) 16 (by rfl) Tryz.underlying27 (by kernel_rfl) rfl (by decide) (by decide) (H.drop (((idxT H (tilC C (i : Int) j))).toNat + 1)) (by rfl) (by rfl) (Kd.C_drop (hH _ hp.tail.tail.tail.tail) (by omega) hcap_26) tile_kp hp.size (by first | omega | (simp; done) | (simp; omega)) hp ?_
         intro A_31 c_32 F_33 W_34 hp hz; clear hz; simp only [List.set_cons_succ, List.set_cons_zero] at hp
         refine step_fin hp.tail ?_
         refine treeI_rd rfl ?_
         refine sxq_val 63 (.pointer (some ⟨g, 0, none⟩)) (by rfl) (fun W hp => (by kernel_rfl)) ?_
         refine sxq_nil ?_
         refine treeI_rd rfl ?_
         refine sxq_val 64 (.pointer (some ⟨g, 4, none⟩)) (by rfl) (fun W hp => (by kernel_rfl)) ?_
         refine sxq_nil ?_
         refine treeI_fin ?_
         exact ⟨_, A_31, c_32, F_33, fr_front [(0, .pointer (some ⟨g, 0, none⟩)), (1, .int .i64 (i : Int)), (2, .int .i64 j), (3, .int .u8 l), (8, .slice AH H.length cH), (62, .slice A_31 (((H.take ((idxT H (tilC C (i : Int) j))).toNat) ++ (H.drop (((idxT H (tilC C (i : Int) j))).toNat + 1))).length) c_32), (64, .pointer (some ⟨g, 4, none⟩))] ⟨rfl, rfl, rfl, rfl, rfl, rfl, rfl, trivial⟩, (hp.take [0, 1, 2, 3] 4 (by decide) (by simp))⟩
        exact treeI_non
       refine treeI_alt rfl ?_ ?_
       ·
        have hcap_35 : H.length ≤ cH := hcH
        refine sx_rd 61 (.slice (if cH = (((idxT H (tilC C (i : Int) j))).toNat + 1) then AH else Option.map (fun x => x.add ((((idxT H (tilC C (i : Int) j))).toNat + 1) * 2)) AH) ((H.drop (((idxT H (tilC C (i : Int) j))).toNat + 1)).length) (cH - (((idxT H (tilC C (i : Int) j))).toNat + 1))) (by rfl) (sl_lo (((idxT H (tilC C (i : Int) j))).toNat + 1) (sz := 2) (xs := H) (by rfl) (by rfl) (by rfl) (by omega) Tryz.underlying27 (by kernel_rfl) (by omega)) ?_
        refine step_fin hp.tail ?_
        refine treeI_ev rfl ?_
        have hcap_36 : H.length ≤ cH := hcH
        refine sx_rd 56 (.slice AH ((H.take ((idxT H (tilC C (i : Int) j))).toNat).length) cH) (by rfl) (sl_hi ((idxT H (tilC C (i : Int) j))).toNat (sz := 2) (xs := H) (by rfl) (by rfl) (by rfl) (by omega) Tryz.underlying27 (by kernel_rfl) (by omega) hcap_36) ?_
        refine step_fin hp.tail ?_
        refine treeI_ev rfl ?_
        refine sx_append 57 (by rfl) k55 0 (by rfl) (.agg #[.int .i64 0, .int .i64 0]) 16 (by rfl) Tryz.underlying27 (by kernel_rfl) rfl (by decide) (by decide) (H.take ((idxT H (tilC C (i : Int) j))).toNat) (by rfl) (by rfl) (Kd.C_take (hH _ hp.tail.tail.tail.tail) (by omega)) tile_kp hp.size (by first | omega | (simp; done) | (simp; omega)) hp ?_
        intro A_37 c_38 F_39 W_40 hp hz; clear hz; simp only [List.set_cons_succ, List.set_cons_zero] at hp
        refine step_fin hp.tail ?_
        refine treeI_ev rfl ?_
        refine sx_append 62 (by rfl) k55 0 (by rfl) (.agg #[.int .i64 0, .int .i64 0]) 16 (by rfl) Tryz.underlying27 (by kernel_rfl) rfl (by decide) (by decide) (H.drop (((idxT H (tilC C (i : Int) j))).toNat + 1)) (by rfl) (by rfl) (Kd.C_drop (hH _ hp.tail.tail.tail.tail) (by omega) hcap_35) tile_kp hp.size (by first | omega | (simp; done) | (simp; omega)) hp ?_
        intro A_41 c_42 F_43 W_44 hp hz; clear hz; simp only [List.set_cons_succ, List.set_cons_zero] at hp
        refine step_fin hp.tail ?_
        refine treeI_rd rfl ?_
        refine sxq_val 63 (.pointer (some ⟨g, 0, none⟩)) (by rfl) (fun W hp => (by kernel_rfl)) ?_
        refine sxq_nil ?_
        refine treeI_rd rfl ?_
        refine sxq_val 64 (.pointer (some ⟨g, 4, none⟩)) (by rfl) (fun W hp => (by kernel_rfl)) ?_
        refine sxq_nil ?_
        refine treeI_fin ?_
        exact ⟨_, A_41, c_42, F_43, fr_front [(0, .pointer (some ⟨g, 0, none⟩)), (1, .int .i64 (i : Int)), (2, .int .i64 j), (3, .int .u8 l), (8, .slice AH H.length cH), (62, .slice A_41 (((H.take ((idxT H (tilC C (i : Int) j))).toNat) ++ (H.drop (((idxT H (tilC C (i : Int) j))).toNat + 1))).length) c_42), (64, .pointer (some ⟨g, 4, none⟩))] ⟨rfl, rfl, rfl, rfl, rfl, rfl, rfl, trivial⟩, (hp.take [0, 1, 2, 3] 4 (by decide) (by simp))⟩
       exact treeI_non
      refine treeI_alt rfl ?_ ?_
      ·
       have hcap_45 : H.length ≤ cH := hcH
       refine sx_rd 56 (.slice AH ((H.take ((idxT H (tilC C (i : Int) j))).toNat).length) cH) (by rfl) (sl_hi ((idxT H (tilC C (i : Int) j))).toNat (sz := 2) (xs := H) (by rfl) (by rfl) (by rfl) (by omega) Tryz.underlying27 (by kernel_rfl) (by omega) hcap_45) ?_
       refine step_fin hp ?_
       refine treeI_alt rfl ?_ ?_
       ·
        refine sx_lit 53 (by rfl) k55 w0.heap.size 55 ([] : List S_Tile) [] (fun W => by kernel_rfl) (Reps.none _ _) (by simp) hp.size hp ?_
        intro g_46 F_47 W_48 hp hz; clear hz
        refine step_fin hp.tail ?_
        refine treeI_alt rfl ?_ ?_
        ·
         refine sx_append 57 (by rfl) k55 0 (by rfl) (.agg #[.int .i64 0, .int .i64 0]) 16 (by rfl) Tryz.underlying27 (by kernel_rfl) rfl (by decide) (by decide) (H.take ((idxT H (tilC C (i : Int) j))).toNat) (by rfl) (by rfl) (Kd.C_take (hH _ hp.tail.tail.tail.tail) (by omega)) tile_kp hp.size (by first | omega | (simp; done) | (simp; omega)) hp ?_
         intro A_49 c_50 F_51 W_52 hp hz; clear hz; simp only [List.set_cons_succ, List.set_cons_zero] at hp
         refine step_fin hp.tail ?_
         refine treeI_ev rfl ?_
         have hcap_53 : H.length ≤ cH := hcH
         refine sx_rd 61 (.slice (if cH = (((idxT H (tilC C (i : Int) j))).toNat + 1) then AH else Option.map (fun x => x.add ((((idxT H (tilC C (i : Int) j))).toNat + 1) * 2)) AH) ((H.drop (((idxT H (tilC C (i : Int) j))).toNat + 1)).length) (cH - (((idxT H (tilC C (i : Int) j))).toNat + 1))) (by rfl) (sl_lo (((idxT H (tilC C (i : Int) j))).toNat + 1) (sz := 2) (xs := H) (by rfl) (by rfl) (by rfl) (by omega) Tryz.underlying27 (by kernel_rfl) (by omega)) ?_
         refine step_fin hp.tail ?_
         refine treeI_ev rfl ?_
         refine sx_append 62 (by rfl) k55 0 (by rfl) (.agg #[.int .i64 0, .int .i64 0]) 16 (by rfl) Tryz.underlying27 (by kernel_rfl) rfl (by decide) (by decide) (H.drop (((idxT H (tilC C (i : Int) j))).toNat + 1)) (by rfl) (by rfl) (Kd.C_drop (hH _ hp.tail.tail.tail.tail) (by omega) hcap_53) tile_kp hp.size (by first | omega | (simp; done) | (simp; omega)) hp ?_
         intro A_54 c_55 F_56 W_57 hp hz; clear hz; simp only [List.set_cons_succ, List.set_cons_zero] at hp
         refine step_fin hp.tail ?_
         refine treeI_rd rfl ?_
         refine sxq_val 63 (.pointer (some ⟨g, 0, none⟩)) (by rfl) (fun W hp => (by kernel_rfl)) ?_
         refine sxq_nil ?_
         refine treeI_rd rfl ?_
         refine sxq_val 64 (.pointer (some ⟨g, 4, none⟩)) (by rfl) (fun W hp => (by kernel_rfl)) ?_
         refine sxq_nil ?_
         refine treeI_fin ?_
         exact ⟨_, A_54, c_55, F_56, fr_front [(0, .pointer (some ⟨g, 0, none⟩)), (1, .int .i64 (i : Int)), (2, .int .i64 j), (3, .int .u8 l), (8, .slice AH H.length cH), (62, .slice A_54 (((H.take ((idxT H (tilC C (i : Int) j))).toNat) ++ (H.drop (((idxT H (tilC C (i : Int) j))).toNat + 1))).length) c_55), (64, .pointer (some ⟨g, 4, none⟩))] ⟨rfl, rfl, rfl, rfl, rfl, rfl, rfl, trivial⟩, (hp.take [0, 1, 2, 3] 4 (by decide) (by simp))⟩
        refine treeI_alt rfl ?_ ?_
        ·
         have hcap_58 : H.length ≤ cH := hcH
         refine sx_rd 61 (.slice (if cH = (((idxT H (tilC C (i : Int) j))).toNat + 1) then AH else Option.map (fun x => x.add ((((idxT H (tilC C (i : Int) j))).toNat + 1) * 2)) AH) ((H.drop (((idxT H (tilC C (i : Int) j))).toNat + 1)).length) (cH - (((idxT H (tilC C (i : Int) j))).toNat + 1))) (by rfl) (sl_lo (((idxT H (tilC C (i : Int) j))).toNat + 1) (sz := 2) (xs := H) (by rfl) (by rfl) (by rfl) (by omega) Tryz.underlying27 (by kernel_rfl) (by omega)) ?_
         refine step_fin hp.tail ?_
         refine treeI_ev rfl ?_
         refine sx_append 57 (by rfl) k55 0 (by rfl) (.agg #[.int .i64 0, .int .i64 0]) 16 (by rfl) Tryz.underlying27 (by kernel_rfl) rfl (by decide) (by decide) (H.take ((idxT H (tilC C (i : Int) j))).toNat) (by rfl) (by rfl) (Kd.C_take (hH _ hp.tail.tail.tail.tail) (by omega)) tile_kp hp.size (by first | omega | (simp; done) | (simp; omega)) hp ?_
         intro A_59 c_60 F_61 W_62 hp hz; clear hz; simp only [List.set_cons_succ, List.set_cons_zero] at hp
         refine step_fin hp.tail ?_
         refine treeI_ev rfl ?_
         refine sx_append 62 (by rfl) k55 0 (by rfl) (.agg #[.int .i64 0, .int .i64 0]) 16 (by rfl) Tryz.underlying27 (by kernel_rfl) rfl (by decide) (by decide) (H.drop (((idxT H (tilC C (i : Int) j))).toNat + 1)) (by rfl) (by rfl) (Kd.C_drop (hH _ hp.tail.tail.tail.tail) (by omega) hcap_58) tile_kp hp.size (by first | omega | (simp; done) | (simp; omega)) hp ?_
         intro A_63 c_64 F_65 W_66 hp hz; clear hz; simp only [List.set_cons_succ, List.set_cons_zero] at hp
         refine step_fin hp.tail ?_
         refine treeI_rd rfl ?_
         refine sxq_val 63 (.pointer (some ⟨g, 0, none⟩)) (by rfl) (fun W hp => (by kernel_rfl)) ?_
         refine sxq_nil ?_
         refine treeI_rd rfl ?_
         refine sxq_val 64 (.pointer (some ⟨g, 4, none⟩)) (by rfl) (fun W hp => (by kernel_rfl)) ?_
         refine sxq_nil ?_
         refine treeI_fin ?_
         exact ⟨_, A_63, c_64, F_65, fr_front [(0, .pointer (some ⟨g, 0, none⟩)), (1, .int .i64 (i : Int)), (2, .int .i64 j), (3, .int .u8 l), (8, .slice AH H.length cH), (62, .slice A_63 (((H.take ((idxT H (tilC C (i : Int) j))).toNat) ++ (H.drop (((idxT H (tilC C (i : Int) j))).toNat + 1))).length) c_64), (64, .pointer (some ⟨g, 4, none⟩))] ⟨rfl, rfl, rfl, rfl, rfl, rfl, rfl, trivial⟩, (hp.take [0, 1, 2, 3] 4 (by decide) (by simp))⟩
        exact treeI_non
       refine treeI_alt rfl ?_ ?_
       ·
        have hcap_67 : H.length ≤ cH := hcH
        refine sx_rd 61 (.slice (if cH = (((idxT H (tilC C (i : Int) j))).toNat + 1) then AH else Option.map (fun x => x.add ((((idxT H (tilC C (i : Int) j))).toNat + 1) * 2)) AH) ((H.drop (((idxT H (tilC C (i : Int) j))).toNat + 1)).length) (cH - (((idxT H (tilC C (i : Int) j))).toNat + 1))) (by rfl) (sl_lo (((idxT H (tilC C (i : Int) j))).toNat + 1) (sz := 2) (xs := H) (by rfl) (by rfl) (by rfl) (by omega) Tryz.underlying27 (by kernel_rfl) (by omega)) ?_
        refine step_fin hp ?_
        refine treeI_ev rfl ?_
        refine sx_lit 53 (by rfl) k55 w0.heap.size 55 ([] : List S_Tile) [] (fun W => by kernel_rfl) (Reps.none _ _) (by simp) hp.size hp ?_
        intro g_68 F_69 W_70 hp hz; clear hz
        refine step_fin hp.tail ?_
        refine treeI_ev rfl ?_
        refine sx_append 57 (by rfl) k55 0 (by rfl) (.agg #[.int .i64 0, .int .i64 0]) 16 (by rfl) Tryz.underlying27 (by kernel_rfl) rfl (by decide) (by decide) (H.take ((idxT H (tilC C (i : Int) j))).toNat) (by rfl) (by rfl) (Kd.C_take (hH _ hp.tail.tail.tail.tail) (by omega)) tile_kp hp.size (by first | omega | (simp; done) | (simp; omega)) hp ?_
        intro A_71 c_72 F_73 W_74 hp hz; clear hz; simp only [List.set_cons_succ, List.set_cons_zero] at hp
        refine step_fin hp.tail ?_
        refine treeI_ev rfl ?_
        refine sx_append 62 (by rfl) k55 0 (by rfl) (.agg #[.int .i64 0, .int .i64 0]) 16 (by rfl) Tryz.underlying27 (by kernel_rfl) rfl (by decide) (by decide) (H.drop (((idxT H (tilC C (i : Int) j))).toNat + 1)) (by rfl) (by rfl) (Kd.C_drop (hH _ hp.tail.tail.tail.tail) (by omega) hcap_67) tile_kp hp.size (by first | omega | (simp; done) | (simp; omega)) hp ?_
        intro A_75 c_76 F_77 W_78 hp hz; clear hz; simp only [List.set_cons_succ, List.set_cons_zero] at hp
        refine step_fin hp.tail ?_
        refine treeI_rd rfl ?_
        refine sxq_val 63 (.pointer (some ⟨g, 0, none⟩)) (by rfl) (fun W hp => (by kernel_rfl)) ?_
        refine sxq_nil ?_
        refine treeI_rd rfl ?_
        refine sxq_val 64 (.pointer (some ⟨g, 4, none⟩)) (by rfl) (fun W hp => (by kernel_rfl)) ?_
        refine sxq_nil ?_
        refine treeI_fin ?_
        exact ⟨_, A_75, c_76, F_77, fr_front [(0, .pointer (some ⟨g, 0, none⟩)), (1, .int .i64 (i : Int)), (2, .int .i64 j), (3, .int .u8 l), (8, .slice AH H.length cH), (62, .slice A_75 (((H.take ((idxT H (tilC C (i : Int) j))).toNat) ++ (H.drop (((idxT H (tilC C (i : Int) j))).toNat + 1))).length) c_76), (64, .pointer (some ⟨g, 4, none⟩))] ⟨rfl, rfl, rfl, rfl, rfl, rfl, rfl, trivial⟩, (hp.take [0, 1, 2, 3] 4 (by decide) (by simp))⟩
       exact treeI_non
      refine treeI_alt rfl ?_ ?_
      ·
       have hcap_79 : H.length ≤ cH := hcH
       refine sx_rd 61 (.slice (if cH = (((idxT H (tilC C (i : Int) j))).toNat + 1) then AH else Option.map (fun x => x.add ((((idxT H (tilC C (i : Int) j))).toNat + 1) * 2)) AH) ((H.drop (((idxT H (tilC C (i : Int) j))).toNat + 1)).length) (cH - (((idxT H (tilC C (i : Int) j))).toNat + 1))) (by rfl) (sl_lo (((idxT H (tilC C (i : Int) j))).toNat + 1) (sz := 2) (xs := H) (by rfl) (by rfl) (by rfl) (by omega) Tryz.underlying27 (by kernel_rfl) (by omega)) ?_
       refine step_fin hp ?_
       refine treeI_alt rfl ?_ ?_
       ·
        refine sx_lit 53 (by rfl) k55 w0.heap.size 55 ([] : List S_Tile) [] (fun W => by kernel_rfl) (Reps.none _ _) (by simp) hp.size hp ?_
        intro g_80 F_81 W_82 hp hz; clear hz
        refine step_fin hp.tail ?_
        refine treeI_ev rfl ?_
        have hcap_83 : H.length ≤ cH := hcH
        refine sx_rd 56 (.slice AH ((H.take ((idxT H (tilC C (i : Int) j))).toNat).length) cH) (by rfl) (sl_hi ((idxT H (tilC C (i : Int) j))).toNat (sz := 2) (xs := H) (by rfl) (by rfl) (by rfl) (by omega) Tryz.underlying27 (by kernel_rfl) (by omega) hcap_83) ?_
        refine step_fin hp.tail ?_
        refine treeI_ev rfl ?_
        refine sx_append 57 (by rfl) k55 0 (by rfl) (.agg #[.int .i64 0, .int .i64 0]) 16 (by rfl) Tryz.underlying27 (by kernel_rfl) rfl (by decide) (by decide) (H.take ((idxT H (tilC C (i : Int) j))).toNat) (by rfl) (by rfl) (Kd.C_take (hH _ hp.tail.tail.tail.tail) (by omega)) tile_kp hp.size (by first | omega | (simp; done) | (simp; omega)) hp ?_
        intro A_84 c_85 F_86 W_87 hp hz; clear hz; simp only [List.set_cons_succ, List.set_cons_zero] at hp
        refine step_fin hp.tail ?_
        refine treeI_ev rfl ?_
        refine sx_append 62 (by rfl) k55 0 (by rfl) (.agg #[.int .i64 0, .int .i64 0]) 16 (by rfl) Tryz.underlying27 (by kernel_rfl) rfl (by decide) (by decide) (H.drop (((idxT H (tilC C (i : Int) j))).toNat + 1)) (by rfl) (by rfl) (Kd.C_drop (hH _ hp.tail.tail.tail.tail) (by omega) hcap_79) tile_kp hp.size (by first | omega | (simp; done) | (simp; omega)) hp ?_
        intro A_88 c_89 F_90 W_91 hp hz; clear hz; simp only [List.set_cons_succ, List.set_cons_zero] at hp
        refine step_fin hp.tail ?_
        refine treeI_rd rfl ?_
        refine sxq_val 63 (.pointer (some ⟨g, 0, none⟩)) (by rfl) (fun W hp => (by kernel_rfl)) ?_
        refine sxq_nil ?_
        refine treeI_rd rfl ?_
        refine sxq_val 64 (.pointer (some ⟨g, 4, none⟩)) (by rfl) (fun W hp => (by kernel_rfl)) ?_
        refine sxq_nil ?_
        refine treeI_fin ?_
        exact ⟨_, A_88, c_89, F_90, fr_front [(0, .pointer (some ⟨g, 0, none⟩)), (1, .int .i64 (i : Int)), (2, .int .i64 j), (3, .int .u8 l), (8, .slice AH H.length cH), (62, .slice A_88 (((H.take ((idxT H (tilC C (i : Int) j))).toNat) ++ (H.drop (((idxT H (tilC C (i : Int) j))).toNat + 1))).length) c_89), (64, .pointer (some ⟨g, 4, none⟩))] ⟨rfl, rfl, rfl, rfl, rfl, rfl, rfl, trivial⟩, (hp.take [0, 1, 2, 3] 4 (by decide) (by simp))⟩
       refine treeI_alt rfl ?_ ?_
       ·
        have hcap_92 : H.length ≤ cH := hcH
        refine sx_rd 56 (.slice AH ((H.take ((idxT H (tilC C (i : Int) j))).toNat).length) cH) (by rfl) (sl_hi ((idxT H (tilC C (i : Int) j))).toNat (sz := 2) (xs := H) (by rfl) (by rfl) (by rfl) (by omega) Tryz.underlying27 (by kernel_rfl) (by omega) hcap_92) ?_
        refine step_fin hp ?_
        refine treeI_ev rfl ?_
        refine sx_lit 53 (by rfl) k55 w0.heap.size 55 ([] : List S_Tile) [] (fun W => by kernel_rfl) (Reps.none _ _) (by simp) hp.size hp ?_
        intro g_93 F_94 W_95 hp hz; clear hz
        refine step_fin hp.tail ?_
        refine treeI_ev rfl ?_
        refine sx_append 57 (by rfl) k55 0 (by rfl) (.agg #[.int .i64 0, .int .i64 0]) 16 (by rfl) Tryz.underlying27 (by kernel_rfl) rfl (by decide) (by decide) (H.take ((idxT H (tilC C (i : Int) j))).toNat) (by rfl) (by rfl) (Kd.C_take (hH _ hp.tail.tail.tail.tail) (by omega)) tile_kp hp.size (by first | omega | (simp; done) | (simp; omega)) hp ?_
        intro A_96 c_97 F_98 W_99 hp hz; clear hz; simp only [List.set_cons_succ, List.set_cons_zero] at hp
        refine step_fin hp.tail ?_
        refine treeI_ev rfl ?_
        refine sx_append 62 (by rfl) k55 0 (by rfl) (.agg #[.int .i64 0, .int .i64 0]) 16 (by rfl) Tryz.underlying27 (by kernel_rfl) rfl (by decide) (by decide) (H.drop (((idxT H (tilC C (i : Int) j))).toNat + 1)) (by rfl) (by rfl) (Kd.C_drop (hH _ hp.tail.tail.tail.tail) (by omega) hcap_79) tile_kp hp.size (by first | omega | (simp; done) | (simp; omega)) hp ?_
        intro A_100 c_101 F_102 W_103 hp hz; clear hz; simp only [List.set_cons_succ, List.set_cons_zero] at hp
        refine step_fin hp.tail ?_
        refine treeI_rd rfl ?_
        refine sxq_val 63 (.pointer (some ⟨g, 0, none⟩)) (by rfl) (fun W hp => (by kernel_rfl)) ?_
        refine sxq_nil ?_
        refine treeI_rd rfl ?_
        refine sxq_val 64 (.pointer (some ⟨g, 4, none⟩)) (by rfl) (fun W hp => (by kernel_rfl)) ?_
        refine sxq_nil ?_
        refine treeI_fin ?_
        exact ⟨_, A_100, c_101, F_102, fr_front [(0, .pointer (some ⟨g, 0, none⟩)), (1, .int .i64 (i : Int)), (2, .int .i64 j), (3, .int .u8 l), (8, .slice AH H.length cH), (62, .slice A_100 (((H.take ((idxT H (tilC C (i : Int) j))).toNat) ++ (H.drop (((idxT H (tilC C (i : Int) j))).toNat + 1))).length) c_101), (64, .pointer (some ⟨g, 4, none⟩))] ⟨rfl, rfl, rfl, rfl, rfl, rfl, rfl, trivial⟩, (hp.take [0, 1, 2, 3] 4 (by decide) (by simp))⟩
       exact treeI_non
      exact treeI_non
     ·
      rintro _ W_104 ⟨r_, Am_23, cm_24, Fm_25, rfl, hp⟩
      refine tail_of [13] (by rfl) ?_
      refine tailI_op rfl ?_
      refine sx_store (t := 27) (p := (.tmp 64)) (x := (.tmp 62)) (by rfl) (by rfl) 1 (by rfl) 4 [.slice Am_23 (((H.take ((idxT H (tilC C (i : Int) j))).toNat) ++ (H.drop (((idxT H (tilC C (i : Int) j))).toNat + 1))).length) cm_24] (by rfl) (by rfl) (by kernel_rfl) (by simp [Value.oneCell']) (by show 5 ≤ 9; omega) #[.int .i64 w, .int .i64 h, .slice AG C.length cG, .bool an, .slice Am_23 (((H.take ((idxT H (tilC C (i : Int) j))).toNat) ++ (H.drop (((idxT H (tilC C (i : Int) j))).toNat + 1))).length) cm_24, .slice (some ⟨gL, 0, none⟩) n cL, .slice Af fd.length cf, .int .i64 c, .int .i64 most] (by rfl) hp ?_
      intro W_105 hp; simp only [List.set_cons_succ, List.set_cons_zero] at hp
      refine tailI_next ?_
      refine tailI_nil ?_
      refine ex_then_n ?_
      refine wp_seq ?_
      refine sx_region ?_
      refine sx_rd 65 (.pointer (some ⟨g, 0, none⟩)) (by rfl) (by kernel_rfl) ?_
      refine sx_rd 66 (.pointer (some ⟨g, 0, none⟩)) (by rfl) (by kernel_rfl) ?_
      refine sx_rd 67 (.pointer (some ⟨g, 5, none⟩)) (by rfl) (by kernel_rfl) ?_
      refine sx_rd 68 (.slice (some ⟨gL, 0, none⟩) n cL) (by rfl) (ld1 (t := 49) (p := (.tmp 67)) (by rfl) (by rfl) (by kernel_rfl) (hp.cell 1 (by rfl) 5 _ (by rfl))) ?_
      refine sx_rd 69 (.int .i64 (i : Int)) (by rfl) (by kernel_rfl) ?_
      refine sx_rd 70 (.int .u8 l) (by rfl) (by kernel_rfl) ?_
      refine sx_rd 71 (.pointer (some (adr (some ⟨gL, 0, none⟩) (i : Int) 1))) (by rfl) (ix_run (d := (Kd.int .u8)) (row_Cn (hp.at_ 2 _ (by rfl))) (t := 49) (by rfl) (by rfl) (by rfl) Tryz.underlying49 (by kernel_rfl) (by omega) (by omega)) ?_
      refine sx_rowstore (t := 5) (p := (.tmp 71)) (x := (.tmp 70)) (by rfl) (by rfl) 2 (Kd.int .u8) (by rfl) (i : Int) l [.int .u8 l] (by rfl) (by rfl) (by kernel_rfl) (by simp [Value.oneCell']) (by rfl) (by omega) (by omega) 0 (fun _ => rfl) hp ?_
      intro F_106 W_107 hp; simp only [List.set_cons_succ, List.set_cons_zero] at hp
      refine sx_nil ?_
      refine ex_then_n ?_
      refine wp_seq ?_
      refine sx_drawT [0, 1, 2, 4, 5] (.rd 3 (.alt 6 (.rd 7 (.fin)) .non)) 8 (C := Hp w0 (row k55 55 w0.heap.size (.slice Am_23 (((H.take ((idxT H (tilC C (i : Int) j))).toNat) ++ (H.drop (((idxT H (tilC C (i : Int) j))).toNat + 1))).length) cm_24) ((H.take ((idxT H (tilC C (i : Int) j))).toNat) ++ (H.drop (((idxT H (tilC C (i : Int) j))).toNat + 1))) Fm_25 :: blk g #[.int .i64 w, .int .i64 h, .slice AG C.length cG, .bool an, .slice Am_23 (((H.take ((idxT H (tilC C (i : Int) j))).toNat) ++ (H.drop (((idxT H (tilC C (i : Int) j))).toNat + 1))).length) cm_24, .slice (some ⟨gL, 0, none⟩) n cL, .slice Af fd.length cf, .int .i64 c, .int .i64 most] 52 :: row (Kd.int .u8) 5 w0.heap.size (.slice (some ⟨gL, 0, none⟩) n cL) (b.set ((i : Int)).toNat l) F_106 :: rowS (Kd.slice 5 (Kd.int .u8)) 49 w0.heap.size (.slice Af fd.length cf) fd Fd :: cs)) (by kernel_rfl) (by kernel_rfl) (fun d _ _ _ _ h => by cases d <;> exact h) (fun W h => h.drew) hp ?_
      refine preI_read rfl ?_
      refine sxq_val 72 (.pointer (some ⟨g, 0, none⟩)) (by rfl) (fun W _ => (by kernel_rfl)) ?_
      refine sxq_nil ?_
      refine preI_read rfl ?_
      refine sxq_val 73 (.pointer (some ⟨g, 0, none⟩)) (by rfl) (fun W _ => (by kernel_rfl)) ?_
      refine sxq_nil ?_
      refine preI_read rfl ?_
      refine sxq_val 74 (.pointer (some ⟨g, 5, none⟩)) (by rfl) (fun W _ => (by kernel_rfl)) ?_
      refine sxq_nil ?_
      refine preI_read rfl ?_
      refine sxq_val 76 (.int .i64 j) (by rfl) (fun W _ => (by kernel_rfl)) ?_
      refine sxq_nil ?_
      refine preI_read rfl ?_
      refine sxq_val 77 (.int .u8 l) (by rfl) (fun W _ => (by kernel_rfl)) ?_
      refine sxq_nil ?_
      refine preI_nil ?_
      intro W_108 hp
      refine treeI_rd rfl ?_
      refine sxq_val 75 (.slice (some ⟨gL, 0, none⟩) n cL) (by rfl) (fun W hp => (ld1 (t := 49) (p := (.tmp 74)) (by rfl) (by rfl) (by kernel_rfl) (hp.cell 1 (by rfl) 5 _ (by rfl)))) ?_
      refine sxq_nil ?_
      refine treeI_ev rfl ?_
      refine sx_call 78 (by rfl) (by kernel_rfl) ((spec_taBack.calls l _ _ (backL_eq hl)).mono ?_)
      rintro _ W_109 ⟨rfl, hb⟩
      refine ⟨_, rfl, ?_⟩
      replace hp := hp.below hb.below
      clear hb
      refine step_fin hp ?_
      refine treeI_rd rfl ?_
      refine sxq_val 79 (.pointer (some (adr (some ⟨gL, 0, none⟩) j 1))) (by rfl) (fun W hp => (ix_run (d := (Kd.int .u8)) (row_Cn (hp.at_ 2 _ (by rfl))) (t := 49) (by rfl) (by rfl) (by rfl) Tryz.underlying49 (by kernel_rfl) (by omega) (by omega))) ?_
      refine sxq_nil ?_
      refine treeI_fin ?_
      refine tail_of [8] (by rfl) ?_
      refine tailI_op rfl ?_
      refine sx_rowstore (t := 5) (p := (.tmp 79)) (x := (.tmp 78)) (by rfl) (by rfl) 2 (Kd.int .u8) (by rfl) j l2 [.int .u8 l2] (by rfl) (by rfl) (by kernel_rfl) (by simp [Value.oneCell']) (by rfl) (by omega) (by omega) 0 (fun _ => rfl) hp ?_
      intro F_110 W_111 hp; simp only [List.set_cons_succ, List.set_cons_zero] at hp
      refine tailI_next ?_
      refine tailI_nil ?_
      refine ex_then_n ?_
      refine wp_seq ?_
      refine sx_region ?_
      refine sx_rd 80 (.pointer (some ⟨g, 0, none⟩)) (by rfl) (by kernel_rfl) ?_
      refine sx_rd 81 (.int .i64 (i : Int)) (by rfl) (by kernel_rfl) ?_
      refine sx_rd 82 (.int .i64 ((i : Int) + 1)) (by rfl) (wr_ok (by omega) (by kernel_rfl)) ?_
      refine sx_call 83 (by rfl) (by kernel_rfl) (((hIH _ (row k55 55 w0.heap.size (.slice Am_23 (((H.take ((idxT H (tilC C (i : Int) j))).toNat) ++ (H.drop (((idxT H (tilC C (i : Int) j))).toNat + 1))).length) cm_24) ((H.take ((idxT H (tilC C (i : Int) j))).toNat) ++ (H.drop (((idxT H (tilC C (i : Int) j))).toNat + 1))) Fm_25 :: cs) g gL w h n ((b.set ((i : Int)).toNat l).set (j).toNat l2) (i + 1) c most an C AG cG ((H.take ((idxT H (tilC C (i : Int) j))).toNat) ++ (H.drop (((idxT H (tilC C (i : Int) j))).toNat + 1))) Am_23 cm_24 cL F_110 fd Af cf Fd hw1 hw2 hh1 hh2 hwh hn (by simp; omega) hCn hcG (fun W h => hG W h.tail) (by first | omega | (simp; omega)) (row_len (hp.at_ 0 _ (by rfl))).2 (fun W h => row_C (h.at_ 0 _ (by rfl))) hc0 hcb hfb hfc (by omega) (by omega) (hp.take [1, 2, 3, 0] 4 (by decide) (by simp)))).mono ?_)
      rintro _ W_112 ⟨FL2, Fd2, Af2, cf2, rfl, hfc2, hp⟩
      refine ⟨_, rfl, ?_⟩
      refine sx_nil ?_
      refine ex_then_n ?_
      refine wp_seq ?_
      refine sx_region ?_
      refine sx_rd 84 (.pointer (some ⟨g, 0, none⟩)) (by rfl) (by kernel_rfl) ?_
      refine sx_rd 85 (.pointer (some ⟨g, 0, none⟩)) (by rfl) (by kernel_rfl) ?_
      refine sx_rd 86 (.pointer (some ⟨g, 5, none⟩)) (by rfl) (by kernel_rfl) ?_
      refine sx_rd 87 (.slice (some ⟨gL, 0, none⟩) n cL) (by rfl) (ld1 (t := 49) (p := (.tmp 86)) (by rfl) (by rfl) (by kernel_rfl) (hp.cell 0 (by rfl) 5 _ (by rfl))) ?_
      refine sx_rd 88 (.int .i64 (i : Int)) (by rfl) (by kernel_rfl) ?_
      refine sx_rd 89 (.pointer (some (adr (some ⟨gL, 0, none⟩) (i : Int) 1))) (by rfl) (ix_run (d := (Kd.int .u8)) (row_Cn (hp.at_ 1 _ (by rfl))) (t := 49) (by rfl) (by rfl) (by rfl) Tryz.underlying49 (by kernel_rfl) (by omega) (by omega)) ?_
      refine sx_rowstore (t := 5) (p := (.tmp 89)) (x := (.const (Go.Value.int Go.IntKind.u8 0))) (by rfl) (by rfl) 1 (Kd.int .u8) (by rfl) (i : Int) 0 [.int .u8 0] (by rfl) (by rfl) (by kernel_rfl) (by simp [Value.oneCell']) (by rfl) (by omega) (by omega) 0 (fun _ => rfl) hp ?_
      intro F_113 W_114 hp; simp only [List.set_cons_succ, List.set_cons_zero] at hp
      refine sx_nil ?_
      refine ex_then_n ?_
      refine wp_seq ?_
      refine sx_region ?_
      refine sx_rd 90 (.pointer (some ⟨g, 0, none⟩)) (by rfl) (by kernel_rfl) ?_
      refine sx_rd 91 (.pointer (some ⟨g, 0, none⟩)) (by rfl) (by kernel_rfl) ?_
      refine sx_rd 92 (.pointer (some ⟨g, 5, none⟩)) (by rfl) (by kernel_rfl) ?_
      refine sx_rd 93 (.slice (some ⟨gL, 0, none⟩) n cL) (by rfl) (ld1 (t := 49) (p := (.tmp 92)) (by rfl) (by rfl) (by kernel_rfl) (hp.cell 0 (by rfl) 5 _ (by rfl))) ?_
      refine sx_rd 94 (.int .i64 j) (by rfl) (by kernel_rfl) ?_
      refine sx_rd 95 (.pointer (some (adr (some ⟨gL, 0, none⟩) j 1))) (by rfl) (ix_run (d := (Kd.int .u8)) (row_Cn (hp.at_ 1 _ (by rfl))) (t := 49) (by rfl) (by rfl) (by rfl) Tryz.underlying49 (by kernel_rfl) (by omega) (by omega)) ?_
      refine sx_rowstore (t := 5) (p := (.tmp 95)) (x := (.const (Go.Value.int Go.IntKind.u8 0))) (by rfl) (by rfl) 1 (Kd.int .u8) (by rfl) j 0 [.int .u8 0] (by rfl) (by rfl) (by kernel_rfl) (by simp [Value.oneCell']) (by rfl) (by omega) (by omega) 0 (fun _ => rfl) hp ?_
      intro F_115 W_116 hp; simp only [List.set_cons_succ, List.set_cons_zero] at hp
      refine sx_nil ?_
      refine ex_then_n ?_
      refine sx_region ?_
      refine sx_rd 96 (.pointer (some ⟨g, 0, none⟩)) (by rfl) (by kernel_rfl) ?_
      refine sx_rd 97 (.slice AH H.length cH) (by rfl) (by kernel_rfl) ?_
      refine sx_rd 98 (.pointer (some ⟨g, 0, none⟩)) (by rfl) (by kernel_rfl) ?_
      refine sx_rd 99 (.pointer (some ⟨g, 4, none⟩)) (by rfl) (by kernel_rfl) ?_
      refine sx_store (t := 27) (p := (.tmp 99)) (x := (.tmp 97)) (by rfl) (by rfl) 0 (by rfl) 4 [.slice AH H.length cH] (by rfl) (by rfl) (by kernel_rfl) (by simp [Value.oneCell']) (by show 5 ≤ 9; omega) #[.int .i64 w, .int .i64 h, .slice AG C.length cG, .bool an, .slice AH H.length cH, .slice (some ⟨gL, 0, none⟩) n cL, .slice Af2 ((addF most fd ((lvs (nxS an C) w (n : Int) d ((b.set ((i : Int)).toNat l).set (j).toNat l2) (i + 1) ((H.take ((idxT H (tilC C (i : Int) j))).toNat) ++ (H.drop (((idxT H (tilC C (i : Int) j))).toNat + 1)))).map Prod.fst)).length) cf2, .int .i64 (c + (((lvs (nxS an C) w (n : Int) d ((b.set ((i : Int)).toNat l).set (j).toNat l2) (i + 1) ((H.take ((idxT H (tilC C (i : Int) j))).toNat) ++ (H.drop (((idxT H (tilC C (i : Int) j))).toNat + 1)))).map Prod.fst).length : Int)), .int .i64 most] (by rfl) hp ?_
      intro W_117 hp; simp only [List.set_cons_succ, List.set_cons_zero] at hp
      refine sx_nil ?_
      refine sx_end_n (.tuple #[]) (res0 (by rfl)) ?_
      have hit : 0 ≤ j ∧ rd b j = 0 := ⟨by omega, by simpa using c_2⟩
      have hbk : ((((b.set ((i : Int)).toNat l).set (j).toNat l2).set ((i : Int)).toNat 0).set (j).toNat 0) = b := set_back b ((i : Int)).toNat (j).toNat l l2 (by omega) (by omega) (by rw [Int.toNat_natCast]; exact hbi) (by rw [Int.toNat_of_nonneg hit.1]; exact hit.2)
      have hmem : (tilC C (i : Int) j) ∈ H := idxT_mem.1 c_8p
      have hnx : nxS an C H i (j).toNat = some ((H.take ((idxT H (tilC C (i : Int) j))).toNat) ++ (H.drop (((idxT H (tilC C (i : Int) j))).toNat + 1))) := by unfold nxS; rw [if_neg (by rw [show an = false from (not_eq c_3)]; simp), Int.toNat_of_nonneg hit.1, if_pos hmem, ← idxT_erase hmem]
      have hpc : ((putL (nxS an C) (lvs (nxS an C) w (n : Int) d) b i j l l2 H).map Prod.fst) = ((lvs (nxS an C) w (n : Int) d ((b.set ((i : Int)).toNat l).set (j).toNat l2) (i + 1) ((H.take ((idxT H (tilC C (i : Int) j))).toNat) ++ (H.drop (((idxT H (tilC C (i : Int) j))).toNat + 1)))).map Prod.fst) := by rw [putL_hit hit.1 hit.2, hnx]; rfl
      have hq := (hp.take [0, 1, 2] 4 (by decide) (by simp))
      rw [hbk] at hq
      rw [hpc]
      exact ⟨_, _, _, _, rfl, hfc2, hq⟩
   ·
    refine wp_skip ?_
    refine ex_then_n ?_
    refine wp_seq ?_
    refine sx_region ?_
    refine sx_rd 65 (.pointer (some ⟨g, 0, none⟩)) (by rfl) (by kernel_rfl) ?_
    refine sx_rd 66 (.pointer (some ⟨g, 0, none⟩)) (by rfl) (by kernel_rfl) ?_
    refine sx_rd 67 (.pointer (some ⟨g, 5, none⟩)) (by rfl) (by kernel_rfl) ?_
    refine sx_rd 68 (.slice (some ⟨gL, 0, none⟩) n cL) (by rfl) (ld1 (t := 49) (p := (.tmp 67)) (by rfl) (by rfl) (by kernel_rfl) (hp.cell 0 (by rfl) 5 _ (by rfl))) ?_
    refine sx_rd 69 (.int .i64 (i : Int)) (by rfl) (by kernel_rfl) ?_
    refine sx_rd 70 (.int .u8 l) (by rfl) (by kernel_rfl) ?_
    refine sx_rd 71 (.pointer (some (adr (some ⟨gL, 0, none⟩) (i : Int) 1))) (by rfl) (ix_run (d := (Kd.int .u8)) (row_Cn (hp.at_ 1 _ (by rfl))) (t := 49) (by rfl) (by rfl) (by rfl) Tryz.underlying49 (by kernel_rfl) (by omega) (by omega)) ?_
    refine sx_rowstore (t := 5) (p := (.tmp 71)) (x := (.tmp 70)) (by rfl) (by rfl) 1 (Kd.int .u8) (by rfl) (i : Int) l [.int .u8 l] (by rfl) (by rfl) (by kernel_rfl) (by simp [Value.oneCell']) (by rfl) (by omega) (by omega) 0 (fun _ => rfl) hp ?_
    intro F_118 W_119 hp; simp only [List.set_cons_succ, List.set_cons_zero] at hp
    refine sx_nil ?_
    refine ex_then_n ?_
    refine wp_seq ?_
    refine sx_drawT [0, 1, 2, 4, 5] (.rd 3 (.alt 6 (.rd 7 (.fin)) .non)) 8 (C := Hp w0 (blk g #[.int .i64 w, .int .i64 h, .slice AG C.length cG, .bool an, .slice AH H.length cH, .slice (some ⟨gL, 0, none⟩) n cL, .slice Af fd.length cf, .int .i64 c, .int .i64 most] 52 :: row (Kd.int .u8) 5 w0.heap.size (.slice (some ⟨gL, 0, none⟩) n cL) (b.set ((i : Int)).toNat l) F_118 :: rowS (Kd.slice 5 (Kd.int .u8)) 49 w0.heap.size (.slice Af fd.length cf) fd Fd :: cs)) (by kernel_rfl) (by kernel_rfl) (fun d _ _ _ _ h => by cases d <;> exact h) (fun W h => h.drew) hp ?_
    refine preI_read rfl ?_
    refine sxq_val 72 (.pointer (some ⟨g, 0, none⟩)) (by rfl) (fun W _ => (by kernel_rfl)) ?_
    refine sxq_nil ?_
    refine preI_read rfl ?_
    refine sxq_val 73 (.pointer (some ⟨g, 0, none⟩)) (by rfl) (fun W _ => (by kernel_rfl)) ?_
    refine sxq_nil ?_
    refine preI_read rfl ?_
    refine sxq_val 74 (.pointer (some ⟨g, 5, none⟩)) (by rfl) (fun W _ => (by kernel_rfl)) ?_
    refine sxq_nil ?_
    refine preI_read rfl ?_
    refine sxq_val 76 (.int .i64 j) (by rfl) (fun W _ => (by kernel_rfl)) ?_
    refine sxq_nil ?_
    refine preI_read rfl ?_
    refine sxq_val 77 (.int .u8 l) (by rfl) (fun W _ => (by kernel_rfl)) ?_
    refine sxq_nil ?_
    refine preI_nil ?_
    intro W_120 hp
    refine treeI_rd rfl ?_
    refine sxq_val 75 (.slice (some ⟨gL, 0, none⟩) n cL) (by rfl) (fun W hp => (ld1 (t := 49) (p := (.tmp 74)) (by rfl) (by rfl) (by kernel_rfl) (hp.cell 0 (by rfl) 5 _ (by rfl)))) ?_
    refine sxq_nil ?_
    refine treeI_ev rfl ?_
    refine sx_call 78 (by rfl) (by kernel_rfl) ((spec_taBack.calls l _ _ (backL_eq hl)).mono ?_)
    rintro _ W_121 ⟨rfl, hb⟩
    refine ⟨_, rfl, ?_⟩
    replace hp := hp.below hb.below
    clear hb
    refine step_fin hp ?_
    refine treeI_rd rfl ?_
    refine sxq_val 79 (.pointer (some (adr (some ⟨gL, 0, none⟩) j 1))) (by rfl) (fun W hp => (ix_run (d := (Kd.int .u8)) (row_Cn (hp.at_ 1 _ (by rfl))) (t := 49) (by rfl) (by rfl) (by rfl) Tryz.underlying49 (by kernel_rfl) (by omega) (by omega))) ?_
    refine sxq_nil ?_
    refine treeI_fin ?_
    refine tail_of [8] (by rfl) ?_
    refine tailI_op rfl ?_
    refine sx_rowstore (t := 5) (p := (.tmp 79)) (x := (.tmp 78)) (by rfl) (by rfl) 1 (Kd.int .u8) (by rfl) j l2 [.int .u8 l2] (by rfl) (by rfl) (by kernel_rfl) (by simp [Value.oneCell']) (by rfl) (by omega) (by omega) 0 (fun _ => rfl) hp ?_
    intro F_122 W_123 hp; simp only [List.set_cons_succ, List.set_cons_zero] at hp
    refine tailI_next ?_
    refine tailI_nil ?_
    refine ex_then_n ?_
    refine wp_seq ?_
    refine sx_region ?_
    refine sx_rd 80 (.pointer (some ⟨g, 0, none⟩)) (by rfl) (by kernel_rfl) ?_
    refine sx_rd 81 (.int .i64 (i : Int)) (by rfl) (by kernel_rfl) ?_
    refine sx_rd 82 (.int .i64 ((i : Int) + 1)) (by rfl) (wr_ok (by omega) (by kernel_rfl)) ?_
    refine sx_call 83 (by rfl) (by kernel_rfl) (((hIH _ (cs) g gL w h n ((b.set ((i : Int)).toNat l).set (j).toNat l2) (i + 1) c most an C AG cG H AH cH cL F_122 fd Af cf Fd hw1 hw2 hh1 hh2 hwh hn (by simp; omega) hCn hcG (fun W h => hG W h) (by first | omega | (simp; omega)) hcH (fun W h => hH W h) hc0 hcb hfb hfc (by omega) (by omega) (hp.take [0, 1, 2] 3 (by decide) (by simp)))).mono ?_)
    rintro _ W_124 ⟨FL2, Fd2, Af2, cf2, rfl, hfc2, hp⟩
    refine ⟨_, rfl, ?_⟩
    refine sx_nil ?_
    refine ex_then_n ?_
    refine wp_seq ?_
    refine sx_region ?_
    refine sx_rd 84 (.pointer (some ⟨g, 0, none⟩)) (by rfl) (by kernel_rfl) ?_
    refine sx_rd 85 (.pointer (some ⟨g, 0, none⟩)) (by rfl) (by kernel_rfl) ?_
    refine sx_rd 86 (.pointer (some ⟨g, 5, none⟩)) (by rfl) (by kernel_rfl) ?_
    refine sx_rd 87 (.slice (some ⟨gL, 0, none⟩) n cL) (by rfl) (ld1 (t := 49) (p := (.tmp 86)) (by rfl) (by rfl) (by kernel_rfl) (hp.cell 0 (by rfl) 5 _ (by rfl))) ?_
    refine sx_rd 88 (.int .i64 (i : Int)) (by rfl) (by kernel_rfl) ?_
    refine sx_rd 89 (.pointer (some (adr (some ⟨gL, 0, none⟩) (i : Int) 1))) (by rfl) (ix_run (d := (Kd.int .u8)) (row_Cn (hp.at_ 1 _ (by rfl))) (t := 49) (by rfl) (by rfl) (by rfl) Tryz.underlying49 (by kernel_rfl) (by omega) (by omega)) ?_
    refine sx_rowstore (t := 5) (p := (.tmp 89)) (x := (.const (Go.Value.int Go.IntKind.u8 0))) (by rfl) (by rfl) 1 (Kd.int .u8) (by rfl) (i : Int) 0 [.int .u8 0] (by rfl) (by rfl) (by kernel_rfl) (by simp [Value.oneCell']) (by rfl) (by omega) (by omega) 0 (fun _ => rfl) hp ?_
    intro F_125 W_126 hp; simp only [List.set_cons_succ, List.set_cons_zero] at hp
    refine sx_nil ?_
    refine ex_then_n ?_
    refine wp_seq ?_
    refine sx_region ?_
    refine sx_rd 90 (.pointer (some ⟨g, 0, none⟩)) (by rfl) (by kernel_rfl) ?_
    refine sx_rd 91 (.pointer (some ⟨g, 0, none⟩)) (by rfl) (by kernel_rfl) ?_
    refine sx_rd 92 (.pointer (some ⟨g, 5, none⟩)) (by rfl) (by kernel_rfl) ?_
    refine sx_rd 93 (.slice (some ⟨gL, 0, none⟩) n cL) (by rfl) (ld1 (t := 49) (p := (.tmp 92)) (by rfl) (by rfl) (by kernel_rfl) (hp.cell 0 (by rfl) 5 _ (by rfl))) ?_
    refine sx_rd 94 (.int .i64 j) (by rfl) (by kernel_rfl) ?_
    refine sx_rd 95 (.pointer (some (adr (some ⟨gL, 0, none⟩) j 1))) (by rfl) (ix_run (d := (Kd.int .u8)) (row_Cn (hp.at_ 1 _ (by rfl))) (t := 49) (by rfl) (by rfl) (by rfl) Tryz.underlying49 (by kernel_rfl) (by omega) (by omega)) ?_
    refine sx_rowstore (t := 5) (p := (.tmp 95)) (x := (.const (Go.Value.int Go.IntKind.u8 0))) (by rfl) (by rfl) 1 (Kd.int .u8) (by rfl) j 0 [.int .u8 0] (by rfl) (by rfl) (by kernel_rfl) (by simp [Value.oneCell']) (by rfl) (by omega) (by omega) 0 (fun _ => rfl) hp ?_
    intro F_127 W_128 hp; simp only [List.set_cons_succ, List.set_cons_zero] at hp
    refine sx_nil ?_
    refine ex_then_n ?_
    refine sx_region ?_
    refine sx_rd 96 (.pointer (some ⟨g, 0, none⟩)) (by rfl) (by kernel_rfl) ?_
    refine sx_rd 97 (.slice AH H.length cH) (by rfl) (by kernel_rfl) ?_
    refine sx_rd 98 (.pointer (some ⟨g, 0, none⟩)) (by rfl) (by kernel_rfl) ?_
    refine sx_rd 99 (.pointer (some ⟨g, 4, none⟩)) (by rfl) (by kernel_rfl) ?_
    refine sx_store (t := 27) (p := (.tmp 99)) (x := (.tmp 97)) (by rfl) (by rfl) 0 (by rfl) 4 [.slice AH H.length cH] (by rfl) (by rfl) (by kernel_rfl) (by simp [Value.oneCell']) (by show 5 ≤ 9; omega) #[.int .i64 w, .int .i64 h, .slice AG C.length cG, .bool an, .slice AH H.length cH, .slice (some ⟨gL, 0, none⟩) n cL, .slice Af2 ((addF most fd ((lvs (nxS an C) w (n : Int) d ((b.set ((i : Int)).toNat l).set (j).toNat l2) (i + 1) H).map Prod.fst)).length) cf2, .int .i64 (c + (((lvs (nxS an C) w (n : Int) d ((b.set ((i : Int)).toNat l).set (j).toNat l2) (i + 1) H).map Prod.fst).length : Int)), .int .i64 most] (by rfl) hp ?_
    intro W_129 hp; simp only [List.set_cons_succ, List.set_cons_zero] at hp
    refine sx_nil ?_
    refine sx_end_n (.tuple #[]) (res0 (by rfl)) ?_
    have hit : 0 ≤ j ∧ rd b j = 0 := ⟨by omega, by simpa using c_2⟩
    have hbk : ((((b.set ((i : Int)).toNat l).set (j).toNat l2).set ((i : Int)).toNat 0).set (j).toNat 0) = b := set_back b ((i : Int)).toNat (j).toNat l l2 (by omega) (by omega) (by rw [Int.toNat_natCast]; exact hbi) (by rw [Int.toNat_of_nonneg hit.1]; exact hit.2)
    have hnx : nxS an C H i (j).toNat = some H := by unfold nxS; rw [if_pos (show an = true from (not_eq c_3))]
    have hpc : ((putL (nxS an C) (lvs (nxS an C) w (n : Int) d) b i j l l2 H).map Prod.fst) = ((lvs (nxS an C) w (n : Int) d ((b.set ((i : Int)).toNat l).set (j).toNat l2) (i + 1) H).map Prod.fst) := by rw [putL_hit hit.1 hit.2, hnx]; rfl
    have hq := (hp.take [0, 1, 2] 3 (by decide) (by simp))
    rw [hbk] at hq
    rw [hpc]
    exact ⟨_, _, _, _, rfl, hfc2, hq⟩
set_option maxRecDepth 100000 in
set_option maxHeartbeats 40000000 in
theorem lookS_of (w0 : World) (d : Nat) (hP : PutS w0 d) : LookS w0 (d + 1) := by
 intro W cs g gL w h n b a c most an C AG cG H AH cH cL FL fd Af cf Fd hw1 hw2 hh1 hh2 hwh hn hbn hCn hcG hG hHn hcH hH hc0 hcb hfb hfc han hdn hp
 refine sx_enter (N := 81) (l := [.pointer (some ⟨g, 0, none⟩), .int .i64 (a : Int)]) Tryz.func44 rfl rfl rfl ?_
 refine wp_seq ?_
 refine wp_block ?_
 refine wp_loop_ghost (fun n_ a_ W => ∃ (r_ : List (Nat × Value)) (i : Nat) , n_ = n - i ∧ a_ = fr 81 ([(0, .pointer (some ⟨g, 0, none⟩)), (1, .int .i64 (i : Int))] ++ r_) ∧ Hp w0 (blk g #[.int .i64 w, .int .i64 h, .slice AG C.length cG, .bool an, .slice AH H.length cH, .slice (some ⟨gL, 0, none⟩) n cL, .slice Af fd.length cf, .int .i64 c, .int .i64 most] 52 :: row (Kd.int .u8) 5 w0.heap.size (.slice (some ⟨gL, 0, none⟩) n cL) b FL :: rowS (Kd.slice 5 (Kd.int .u8)) 49 w0.heap.size (.slice Af fd.length cf) fd Fd :: cs) W ∧ (i ≤ n) ∧ (a ≤ i) ∧ (∀ j, a ≤ j → j < i → rd b (j : Int) ≠ 0)) _ ⟨_, a, rfl, fr_front [(0, .pointer (some ⟨g, 0, none⟩)), (1, .int .i64 ((a : Nat) : Int))] ⟨rfl, rfl, trivial⟩, (hp.take [0, 1, 2] 3 (by decide) (by simp)), (by omega), (Nat.le_refl _), (fun j h1 h2 => absurd h1 (by omega))⟩ ?_
 rintro _ _ W_1 ⟨r_, i, rfl, rfl, hp, hi, hai, hsk⟩
 refine wp_seq ?_
 refine wp_seq ?_
 rcases Bool.eq_false_or_eq_true (decide ((i : Int) < (n : Int))) with c_2 | c_2
 ·
  have c_2p := of_decide_eq_true c_2
  refine sx_region ?_
  refine sx_rd 6 (.int .i64 (i : Int)) (by rfl) (by kernel_rfl) ?_
  refine sx_rd 7 (.pointer (some ⟨g, 0, none⟩)) (by rfl) (by kernel_rfl) ?_
  refine sx_rd 8 (.pointer (some ⟨g, 0, none⟩)) (by rfl) (by kernel_rfl) ?_
  refine sx_rd 9 (.pointer (some ⟨g, 5, none⟩)) (by rfl) (by kernel_rfl) ?_
  refine sx_rd 10 (.slice (some ⟨gL, 0, none⟩) n cL) (by rfl) (ld1 (t := 49) (p := (.tmp 9)) (by rfl) (by rfl) (by kernel_rfl) (hp.cell 0 (by rfl) 5 _ (by rfl))) ?_
  refine sx_rd 11 (.int .i64 (n : Int)) (by rfl) (by kernel_rfl) ?_
  refine sx_rd 12 (.bool true) (by rfl) (bv c_2 (by kernel_rfl)) ?_
  refine sx_rd 13 (.bool true) (by rfl) (by kernel_rfl) ?_
  refine sx_want (by rfl) ?_
  refine sx_rd 14 (.pointer (some ⟨g, 0, none⟩)) (by rfl) (by kernel_rfl) ?_
  refine sx_want (by rfl) ?_
  refine sx_rd 15 (.pointer (some ⟨g, 0, none⟩)) (by rfl) (by kernel_rfl) ?_
  refine sx_want (by rfl) ?_
  refine sx_rd 16 (.pointer (some ⟨g, 5, none⟩)) (by rfl) (by kernel_rfl) ?_
  refine sx_want (by rfl) ?_
  refine sx_rd 17 (.slice (some ⟨gL, 0, none⟩) n cL) (by rfl) (ld1 (t := 49) (p := (.tmp 16)) (by rfl) (by rfl) (by kernel_rfl) (hp.cell 0 (by rfl) 5 _ (by rfl))) ?_
  refine sx_want (by rfl) ?_
  refine sx_rd 18 (.int .i64 (i : Int)) (by rfl) (by kernel_rfl) ?_
  refine sx_want (by rfl) ?_
  refine sx_rd 19 (.pointer (some (adr (some ⟨gL, 0, none⟩) (i : Int) 1))) (by rfl) (ix_run (d := (Kd.int .u8)) (row_Cn (hp.at_ 1 _ (by rfl))) (t := 49) (by rfl) (by rfl) (by rfl) Tryz.underlying49 (by kernel_rfl) (by omega) (by omega)) ?_
  refine sx_want (by rfl) ?_
  refine sx_rd 20 (.int .u8 (rd b (i : Int))) (by rfl) (ld1 (t := 5) (p := (.tmp 19)) (by rfl) (by rfl) (by kernel_rfl) (el_cell (d := (Kd.int .u8)) (row_C (hp.at_ 1 _ (by rfl))) 0 (i : Int) (by omega) (by omega) (cells := [.int .u8 (rd b (i : Int))]) (fun cs h => h) 0 _ (by rfl))) ?_
  refine sx_want (by rfl) ?_
  refine sx_rd 21 (.bool ((rd b (i : Int)) != 0)) (by rfl) (by kernel_rfl) ?_
  refine sx_rd 22 (.bool ((rd b (i : Int)) != 0)) (by rfl) (by kernel_rfl) ?_
  refine sx_nil ?_
  refine ex_then_n ?_
  refine sx_cond ((rd b (i : Int)) != 0) (by rfl) (fun c_3 => ?_) (fun c_3 => ?_)
  ·
   have c_3p := ne_of_bne_ c_3
   refine wp_skip ?_
   refine ex_then_n ?_
   refine wp_block ?_
   refine sx_region ?_
   refine sx_rd 23 (.int .i64 (i : Int)) (by rfl) (by kernel_rfl) ?_
   refine sx_rd 24 (.int .i64 ((i : Int) + 1)) (by rfl) (wr_ok (by omega) (by kernel_rfl)) ?_
   refine sx_rd 1 (.int .i64 ((i : Int) + 1)) (by rfl) (by kernel_rfl) ?_
   refine sx_nil ?_
   refine ex_blk_n ?_
   refine ex_then_n ?_
   exact ⟨_, (by omega), _, (i + 1), rfl, fr_front [(0, .pointer (some ⟨g, 0, none⟩)), (1, .int .i64 ((i + 1 : Nat) : Int))] ⟨rfl, rfl, trivial⟩, (hp.take [0, 1, 2] 3 (by decide) (by simp)), (by omega), (by omega), (fun j h1 h2 => by rcases Nat.lt_succ_iff_lt_or_eq.1 h2 with q | rfl; exact hsk j h1 q; have q := c_3; simpa using q)⟩
  ·
   have c_3p := eq_of_bne_ c_3
   refine wp_exit ?_
   refine ex_then_e (ex_then_e (ex_blk_here ?_))
   refine ex_then_n ?_
   refine wp_seq ?_
   refine wp_seq ?_
   refine sx_region ?_
   refine sx_rd 25 (.int .i64 (i : Int)) (by rfl) (by kernel_rfl) ?_
   refine sx_rd 26 (.pointer (some ⟨g, 0, none⟩)) (by rfl) (by kernel_rfl) ?_
   refine sx_rd 27 (.pointer (some ⟨g, 0, none⟩)) (by rfl) (by kernel_rfl) ?_
   refine sx_rd 28 (.pointer (some ⟨g, 5, none⟩)) (by rfl) (by kernel_rfl) ?_
   refine sx_rd 29 (.slice (some ⟨gL, 0, none⟩) n cL) (by rfl) (ld1 (t := 49) (p := (.tmp 28)) (by rfl) (by rfl) (by kernel_rfl) (hp.cell 0 (by rfl) 5 _ (by rfl))) ?_
   refine sx_rd 30 (.int .i64 (n : Int)) (by rfl) (by kernel_rfl) ?_
   refine sx_rd 31 (.bool ((i : Int) == (n : Int))) (by rfl) (by kernel_rfl) ?_
   refine sx_nil ?_
   refine ex_then_n ?_
   refine sx_cond ((i : Int) == (n : Int)) (by rfl) (fun c_4 => ?_) (fun c_4 => ?_)
   ·
    have c_4p := eq_of_beq_ c_4
    simp only [P2] at hcb hfb
    have hP2 := P2_pos d
    refine wp_seq ?_
    refine sx_region ?_
    refine sx_rd 32 (.pointer (some ⟨g, 0, none⟩)) (by rfl) (by kernel_rfl) ?_
    refine sx_rd 33 (.pointer (some ⟨g, 0, none⟩)) (by rfl) (by kernel_rfl) ?_
    refine sx_rd 34 (.pointer (some ⟨g, 7, none⟩)) (by rfl) (by kernel_rfl) ?_
    refine sx_rd 35 (.int .i64 c) (by rfl) (ld1 (t := 3) (p := (.tmp 34)) (by rfl) (by rfl) (by kernel_rfl) (hp.cell 0 (by rfl) 7 _ (by rfl))) ?_
    refine sx_rd 36 (.int .i64 (c + 1)) (by rfl) (wr_ok (by omega) (by kernel_rfl)) ?_
    refine sx_rd 37 (.pointer (some ⟨g, 0, none⟩)) (by rfl) (by kernel_rfl) ?_
    refine sx_rd 38 (.pointer (some ⟨g, 7, none⟩)) (by rfl) (by kernel_rfl) ?_
    refine sx_store (t := 3) (p := (.tmp 38)) (x := (.tmp 36)) (by rfl) (by rfl) 0 (by rfl) 7 [.int .i64 (c + 1)] (by rfl) (by rfl) (by kernel_rfl) (by simp [Value.oneCell']) (by show 8 ≤ 9; omega) #[.int .i64 w, .int .i64 h, .slice AG C.length cG, .bool an, .slice AH H.length cH, .slice (some ⟨gL, 0, none⟩) n cL, .slice Af fd.length cf, .int .i64 (c + 1), .int .i64 most] (by rfl) hp ?_
    intro W_5 hp; simp only [List.set_cons_succ, List.set_cons_zero] at hp
    refine sx_nil ?_
    refine ex_then_n ?_
    refine wp_seq ?_
    refine wp_seq ?_
    refine sx_drawT [0, 1, 2, 5, 6, 7] (.rd 3 (.rd 4 (.rd 8 (.rd 9 (.fin))))) 10 (C := Hp w0 (blk g #[.int .i64 w, .int .i64 h, .slice AG C.length cG, .bool an, .slice AH H.length cH, .slice (some ⟨gL, 0, none⟩) n cL, .slice Af fd.length cf, .int .i64 (c + 1), .int .i64 most] 52 :: row (Kd.int .u8) 5 w0.heap.size (.slice (some ⟨gL, 0, none⟩) n cL) b FL :: rowS (Kd.slice 5 (Kd.int .u8)) 49 w0.heap.size (.slice Af fd.length cf) fd Fd :: cs)) (by kernel_rfl) (by kernel_rfl) (fun d _ _ _ _ h => by cases d <;> exact h) (fun W h => h.drew) hp ?_
    refine preI_read rfl ?_
    refine sxq_val 39 (.pointer (some ⟨g, 0, none⟩)) (by rfl) (fun W _ => (by kernel_rfl)) ?_
    refine sxq_nil ?_
    refine preI_read rfl ?_
    refine sxq_val 40 (.pointer (some ⟨g, 0, none⟩)) (by rfl) (fun W _ => (by kernel_rfl)) ?_
    refine sxq_nil ?_
    refine preI_read rfl ?_
    refine sxq_val 41 (.pointer (some ⟨g, 6, none⟩)) (by rfl) (fun W _ => (by kernel_rfl)) ?_
    refine sxq_nil ?_
    refine preI_read rfl ?_
    refine sxq_val 44 (.pointer (some ⟨g, 0, none⟩)) (by rfl) (fun W _ => (by kernel_rfl)) ?_
    refine sxq_nil ?_
    refine preI_read rfl ?_
    refine sxq_val 45 (.pointer (some ⟨g, 0, none⟩)) (by rfl) (fun W _ => (by kernel_rfl)) ?_
    refine sxq_nil ?_
    refine preI_read rfl ?_
    refine sxq_val 46 (.pointer (some ⟨g, 8, none⟩)) (by rfl) (fun W _ => (by kernel_rfl)) ?_
    refine sxq_nil ?_
    refine preI_nil ?_
    intro W_6 hp
    refine treeI_rd rfl ?_
    refine sxq_val 42 (.slice Af fd.length cf) (by rfl) (fun W hp => (ld1 (t := 50) (p := (.tmp 41)) (by rfl) (by rfl) (by kernel_rfl) (hp.cell 0 (by rfl) 6 _ (by rfl)))) ?_
    refine sxq_nil ?_
    refine treeI_rd rfl ?_
    refine sxq_val 43 (.int .i64 (fd.length : Int)) (by rfl) (fun W hp => (by kernel_rfl)) ?_
    refine sxq_nil ?_
    refine treeI_rd rfl ?_
    refine sxq_val 47 (.int .i64 most) (by rfl) (fun W hp => (ld1 (t := 3) (p := (.tmp 46)) (by rfl) (by rfl) (by kernel_rfl) (hp.cell 0 (by rfl) 8 _ (by rfl)))) ?_
    refine sxq_nil ?_
    refine treeI_rd rfl ?_
    refine sxq_val 48 (.bool (decide ((fd.length : Int) ≤ most))) (by rfl) (fun W hp => (by kernel_rfl)) ?_
    refine sxq_nil ?_
    refine treeI_fin ?_
    refine sx_nil ?_
    refine ex_then_n ?_
    refine sx_cond (decide ((fd.length : Int) ≤ most)) (by rfl) (fun c_7 => ?_) (fun c_7 => ?_)
    ·
     have c_7p := of_decide_eq_true c_7
     refine sx_drawT [0, 1, 2, 3, 6, 7, 8] (.rd 4 (.rd 9 (.alt 5 (.alt 10 (.alt 11 (.fin) .non) .non) .non))) 12 (C := Hp w0 (blk g #[.int .i64 w, .int .i64 h, .slice AG C.length cG, .bool an, .slice AH H.length cH, .slice (some ⟨gL, 0, none⟩) n cL, .slice Af fd.length cf, .int .i64 (c + 1), .int .i64 most] 52 :: row (Kd.int .u8) 5 w0.heap.size (.slice (some ⟨gL, 0, none⟩) n cL) b FL :: rowS (Kd.slice 5 (Kd.int .u8)) 49 w0.heap.size (.slice Af fd.length cf) fd Fd :: cs)) (by kernel_rfl) (by kernel_rfl) (fun d _ _ _ _ h => by cases d <;> exact h) (fun W h => h.drew) hp ?_
     refine preI_read rfl ?_
     refine sxq_val 49 (.pointer (some ⟨g, 0, none⟩)) (by rfl) (fun W _ => (by kernel_rfl)) ?_
     refine sxq_nil ?_
     refine preI_read rfl ?_
     refine sxq_val 50 (.pointer (some ⟨g, 0, none⟩)) (by rfl) (fun W _ => (by kernel_rfl)) ?_
     refine sxq_nil ?_
     refine preI_read rfl ?_
     refine sxq_val 51 (.pointer (some ⟨g, 0, none⟩)) (by rfl) (fun W _ => (by kernel_rfl)) ?_
     refine sxq_nil ?_
     refine preI_read rfl ?_
     refine sxq_val 52 (.pointer (some ⟨g, 6, none⟩)) (by rfl) (fun W _ => (by kernel_rfl)) ?_
     refine sxq_nil ?_
     refine preI_read rfl ?_
     refine sxq_val 55 (.pointer (some ⟨g, 0, none⟩)) (by rfl) (fun W _ => (by kernel_rfl)) ?_
     refine sxq_nil ?_
     refine preI_read rfl ?_
     refine sxq_val 56 (.pointer (some ⟨g, 0, none⟩)) (by rfl) (fun W _ => (by kernel_rfl)) ?_
     refine sxq_nil ?_
     refine preI_read rfl ?_
     refine sxq_val 57 (.pointer (some ⟨g, 5, none⟩)) (by rfl) (fun W _ => (by kernel_rfl)) ?_
     refine sxq_nil ?_
     refine preI_nil ?_
     intro W_8 hp
     refine treeI_rd rfl ?_
     refine sxq_val 53 (.slice Af fd.length cf) (by rfl) (fun W hp => (ld1 (t := 50) (p := (.tmp 52)) (by rfl) (by rfl) (by kernel_rfl) (hp.cell 0 (by rfl) 6 _ (by rfl)))) ?_
     refine sxq_nil ?_
     refine treeI_rd rfl ?_
     refine sxq_val 58 (.slice (some ⟨gL, 0, none⟩) n cL) (by rfl) (fun W hp => (ld1 (t := 49) (p := (.tmp 57)) (by rfl) (by rfl) (by kernel_rfl) (hp.cell 0 (by rfl) 5 _ (by rfl)))) ?_
     refine sxq_nil ?_
     refine treeI_ev rfl ?_
     refine sx_lit 54 (by rfl) (Kd.int .u8) w0.heap.size 5 ([] : List Int) [] (fun W => by kernel_rfl) (Reps.none _ _) (by simp) hp.size hp ?_
     intro g_9 F_10 W_11 hp hz; clear hz
     refine step_fin hp.tail ?_
     refine treeI_ev rfl ?_
     refine sx_append 59 (by rfl) (Kd.int .u8) 0 (by rfl) (.int .u8 0) 1 (by rfl) Tryz.underlying49 (by kernel_rfl) rfl (by decide) (by decide) b (by rfl) (by rw [hbn]; rfl) (row_C (hp.at_ 2 _ (by rfl))) (fun x cs h => h) hp.size (by first | omega | (simp; done) | (simp; omega)) hp ?_
     intro A_12 c_13 F_14 W_15 hp hz; clear hz; simp only [List.set_cons_succ, List.set_cons_zero] at hp
     refine step_fin hp.tail ?_
     refine treeI_ev rfl ?_
     refine sx_blit 60 (by rfl) (hv := .slice A_12 b.length c_13) (e := 49) (fun W => by kernel_rfl) hp ?_
     intro g_16 W_17 hp
     refine step_fin hp.tail.tail ?_
     refine treeI_fin ?_
     refine tail_of [12, 13, 14, 15] (by rfl) ?_
     refine tailI_op rfl ?_
     have hp := (hp.take [4, 1, 0, 2, 3] 5 (by decide) (by simp))
     refine sx_pushP 61 (by rfl) (t := 50) (.slice none 0 0) 24 (by rfl) Tryz.underlying50 (by kernel_rfl) rfl (by decide) (by rfl) (by rfl) hp.size (by omega) hp ?_
     intro A_18 c_19 F_20 W_21 hp
     refine tailI_next ?_
     refine tailI_op rfl ?_
     refine sx_rd 62 (.pointer (some ⟨g, 0, none⟩)) (by rfl) (by kernel_rfl) ?_
     refine tailI_next ?_
     refine tailI_op rfl ?_
     refine sx_rd 63 (.pointer (some ⟨g, 6, none⟩)) (by rfl) (by kernel_rfl) ?_
     refine tailI_next ?_
     refine tailI_op rfl ?_
     refine sx_store (t := 50) (p := (.tmp 63)) (x := (.tmp 61)) (by rfl) (by rfl) 2 (by rfl) 6 [.slice A_18 ((fd ++ [b]).length) c_19] (by rfl) (by rfl) (by kernel_rfl) (by simp [Value.oneCell']) (by show 7 ≤ 9; omega) #[.int .i64 w, .int .i64 h, .slice AG C.length cG, .bool an, .slice AH H.length cH, .slice (some ⟨gL, 0, none⟩) n cL, .slice A_18 ((fd ++ [b]).length) c_19, .int .i64 (c + 1), .int .i64 most] (by rfl) hp ?_
     intro W_22 hp; simp only [List.set_cons_succ, List.set_cons_zero] at hp
     refine tailI_next ?_
     refine tailI_nil ?_
     refine ex_then_n ?_
     refine wp_ret ?_
     refine ex_then_r ?_
     refine sx_end (.tuple #[]) (res0 (by rfl)) ?_
     obtain rfl : i = n := by omega
     have hff : ffN b a = b.length := ffN_end (by omega) (fun j h1 h2 => hsk j h1 (by omega))
     have hL : (lvs (nxS an C) w (i : Int) (d + 1) b a H).map Prod.fst = [b] := by rw [lvs_succ, if_pos hff]; rfl
     rw [hL, addF_one, if_pos c_7p, show c + ((([b] : List (List Int)).length : Nat) : Int) = c + 1 by simp]
     exact ⟨_, _, _, _, rfl, (rowS_len (hp.at_ 0 _ (by rfl))).2, (hp.take [2, 3, 0] 4 (by decide) (by simp))⟩
    ·
     have c_7p := of_decide_eq_false c_7
     refine wp_skip ?_
     refine ex_then_n ?_
     refine wp_ret ?_
     refine ex_then_r ?_
     refine sx_end (.tuple #[]) (res0 (by rfl)) ?_
     obtain rfl : i = n := by omega
     have hff : ffN b a = b.length := ffN_end (by omega) (fun j h1 h2 => hsk j h1 (by omega))
     have hL : (lvs (nxS an C) w (i : Int) (d + 1) b a H).map Prod.fst = [b] := by rw [lvs_succ, if_pos hff]; rfl
     rw [hL, addF_one, if_neg c_7p, show c + ((([b] : List (List Int)).length : Nat) : Int) = c + 1 by simp]
     exact ⟨_, _, _, _, rfl, hfc, (hp.take [0, 1, 2] 3 (by decide) (by simp))⟩
   ·
    have c_4p := ne_of_beq_ c_4
    simp only [P2] at hcb hfb
    have hP2 := P2_pos d
    have hlt : i < n := by omega
    have hfree : rd b (i : Int) = 0 := by simpa using c_3
    refine wp_skip ?_
    refine ex_then_n ?_
    refine wp_seq ?_
    refine sx_region ?_
    refine sx_rd 65 (.pointer (some ⟨g, 0, none⟩)) (by rfl) (by kernel_rfl) ?_
    refine sx_rd 66 (.pointer (some ⟨g, 0, none⟩)) (by rfl) (by kernel_rfl) ?_
    refine sx_rd 67 (.pointer (some ⟨g, 0, none⟩)) (by rfl) (by kernel_rfl) ?_
    refine sx_rd 68 (.agg #[.int .i64 w, .int .i64 h, .slice AG C.length cG]) (by rfl) (ldn (t := 44) (p := (.tmp 67)) (by rfl) (by rfl) (by kernel_rfl) (by kernel_rfl) (by kernel_rfl) (hp.at_ 0 _ (by rfl))) ?_
    refine sx_rd 69 (.int .i64 (i : Int)) (by rfl) (by kernel_rfl) ?_
    refine sx_call 70 (by rfl) (by kernel_rfl) ((near_sx w h n i AG C.length cG hw1 hw2 hh1 hh2 hwh hn hlt hp).mono ?_)
    rintro _ W_23 ⟨rfl, hp⟩
    refine ⟨_, rfl, ?_⟩
    refine sx_rd 64 (.tuple #[.int .i64 (nearE w (i : Int)), .int .i64 (nearS w n (i : Int))]) (by rfl) (by kernel_rfl) ?_
    refine sx_rd 71 (.int .i64 (nearE w (i : Int))) (by rfl) (by kernel_rfl) ?_
    refine sx_rd 72 (.int .i64 (nearS w n (i : Int))) (by rfl) (by kernel_rfl) ?_
    refine sx_rd 4 (.int .i64 (nearE w (i : Int))) (by rfl) (by kernel_rfl) ?_
    refine sx_rd 5 (.int .i64 (nearS w n (i : Int))) (by rfl) (by kernel_rfl) ?_
    refine sx_nil ?_
    refine ex_then_n ?_
    refine wp_seq ?_
    refine sx_region ?_
    refine sx_rd 73 (.pointer (some ⟨g, 0, none⟩)) (by rfl) (by kernel_rfl) ?_
    refine sx_rd 74 (.int .i64 (i : Int)) (by rfl) (by kernel_rfl) ?_
    refine sx_rd 75 (.int .i64 (nearE w (i : Int))) (by rfl) (by kernel_rfl) ?_
    have hpb1 : ((((putL (nxS an C) (lvs (nxS an C) w (n : Int) d) b i (nearE w (i : Int)) 101 119 H).map Prod.fst).length : Nat) : Int) ≤ P2 d := by rw [List.length_map]; exact putL_bd d b i (nearE w (i : Int)) 101 119 H
    have hal1 := addF_len most ((putL (nxS an C) (lvs (nxS an C) w (n : Int) d) b i (nearE w (i : Int)) 101 119 H).map Prod.fst) fd
    refine sx_call 76 (by rfl) (by kernel_rfl) (((hP _ (cs) g gL w h n b i (nearE w (i : Int)) 101 119 c most an C AG cG H AH cH cL FL fd Af cf Fd hw1 hw2 hh1 hh2 hwh hn hbn hCn hcG (fun W h => hG W h) hHn hcH (fun W h => hH W h) (by omega) (by omega) (by omega) hfc hlt hfree (nearE_bd hw1 hwh (by omega) (by omega)) (by decide) (by omega) (hp.take [0, 1, 2] 3 (by decide) (by simp)))).mono ?_)
    rintro _ W_24 ⟨FL1, Fd1, Af1, cf1, rfl, hfc1, hp⟩
    refine ⟨_, rfl, ?_⟩
    refine sx_nil ?_
    refine ex_then_n ?_
    refine sx_region ?_
    refine sx_rd 77 (.pointer (some ⟨g, 0, none⟩)) (by rfl) (by kernel_rfl) ?_
    refine sx_rd 78 (.int .i64 (i : Int)) (by rfl) (by kernel_rfl) ?_
    refine sx_rd 79 (.int .i64 (nearS w n (i : Int))) (by rfl) (by kernel_rfl) ?_
    have hpb2 : ((((putL (nxS an C) (lvs (nxS an C) w (n : Int) d) b i (nearS w n (i : Int)) 115 110 H).map Prod.fst).length : Nat) : Int) ≤ P2 d := by rw [List.length_map]; exact putL_bd d b i (nearS w n (i : Int)) 115 110 H
    have hal2 := addF_len most ((putL (nxS an C) (lvs (nxS an C) w (n : Int) d) b i (nearS w n (i : Int)) 115 110 H).map Prod.fst) (addF most fd ((putL (nxS an C) (lvs (nxS an C) w (n : Int) d) b i (nearE w (i : Int)) 101 119 H).map Prod.fst))
    refine sx_call 80 (by rfl) (by kernel_rfl) (((hP _ (cs) g gL w h n b i (nearS w n (i : Int)) 115 110 (c + (((putL (nxS an C) (lvs (nxS an C) w (n : Int) d) b i (nearE w (i : Int)) 101 119 H).map Prod.fst).length : Int)) most an C AG cG H AH cH cL FL1 (addF most fd ((putL (nxS an C) (lvs (nxS an C) w (n : Int) d) b i (nearE w (i : Int)) 101 119 H).map Prod.fst)) Af1 cf1 Fd1 hw1 hw2 hh1 hh2 hwh hn hbn hCn hcG (fun W h => hG W h) hHn hcH (fun W h => hH W h) (by omega) (by omega) (by omega) hfc1 hlt hfree (nearS_bd hw1 (by omega) (by omega)) (by decide) (by omega) (hp.take [0, 1, 2] 3 (by decide) (by simp)))).mono ?_)
    rintro _ W_25 ⟨FL2, Fd2, Af2, cf2, rfl, hfc2, hp⟩
    refine ⟨_, rfl, ?_⟩
    refine sx_nil ?_
    refine sx_end_n (.tuple #[]) (res0 (by rfl)) ?_
    have hff : ffN b a = i := ffN_hit hai (by omega) hsk hfree
    have hL : (lvs (nxS an C) w (n : Int) (d + 1) b a H).map Prod.fst = ((putL (nxS an C) (lvs (nxS an C) w (n : Int) d) b i (nearE w (i : Int)) 101 119 H).map Prod.fst) ++ ((putL (nxS an C) (lvs (nxS an C) w (n : Int) d) b i (nearS w n (i : Int)) 115 110 H).map Prod.fst) := by rw [lvs_succ, if_neg (by omega), hff, List.map_append]
    rw [hL, addF_append, List.length_append, Int.natCast_add, ← Int.add_assoc]
    exact ⟨_, _, _, _, rfl, hfc2, (hp.take [0, 1, 2] 3 (by decide) (by simp))⟩
 ·
  have c_2p := of_decide_eq_false c_2
  refine sx_region ?_
  refine sx_rd 6 (.int .i64 (i : Int)) (by rfl) (by kernel_rfl) ?_
  refine sx_rd 7 (.pointer (some ⟨g, 0, none⟩)) (by rfl) (by kernel_rfl) ?_
  refine sx_rd 8 (.pointer (some ⟨g, 0, none⟩)) (by rfl) (by kernel_rfl) ?_
  refine sx_rd 9 (.pointer (some ⟨g, 5, none⟩)) (by rfl) (by kernel_rfl) ?_
  refine sx_rd 10 (.slice (some ⟨gL, 0, none⟩) n cL) (by rfl) (ld1 (t := 49) (p := (.tmp 9)) (by rfl) (by rfl) (by kernel_rfl) (hp.cell 0 (by rfl) 5 _ (by rfl))) ?_
  refine sx_rd 11 (.int .i64 (n : Int)) (by rfl) (by kernel_rfl) ?_
  refine sx_rd 12 (.bool false) (by rfl) (bv c_2 (by kernel_rfl)) ?_
  refine sx_rd 13 (.bool false) (by rfl) (by kernel_rfl) ?_
  refine sx_skip 14 (by rfl) (by rfl) (by rfl) ?_
  refine sx_skip 15 (by rfl) (by rfl) (by rfl) ?_
  refine sx_skip 16 (by rfl) (by rfl) (by rfl) ?_
  refine sx_skip 17 (by rfl) (by rfl) (by rfl) ?_
  refine sx_skip 18 (by rfl) (by rfl) (by rfl) ?_
  refine sx_skip 19 (by rfl) (by rfl) (by rfl) ?_
  refine sx_skip 20 (by rfl) (by rfl) (by rfl) ?_
  refine sx_skip 21 (by rfl) (by rfl) (by rfl) ?_
  refine sx_rd 22 (.bool false) (by rfl) (by kernel_rfl) ?_
  refine sx_nil ?_
  refine ex_then_n ?_
  refine sx_else false (by rfl) rfl ?_
  refine wp_exit ?_
  refine ex_then_e (ex_then_e (ex_blk_here ?_))
  refine ex_then_n ?_
  refine wp_seq ?_
  refine wp_seq ?_
  refine sx_region ?_
  refine sx_rd 25 (.int .i64 (i : Int)) (by rfl) (by kernel_rfl) ?_
  refine sx_rd 26 (.pointer (some ⟨g, 0, none⟩)) (by rfl) (by kernel_rfl) ?_
  refine sx_rd 27 (.pointer (some ⟨g, 0, none⟩)) (by rfl) (by kernel_rfl) ?_
  refine sx_rd 28 (.pointer (some ⟨g, 5, none⟩)) (by rfl) (by kernel_rfl) ?_
  refine sx_rd 29 (.slice (some ⟨gL, 0, none⟩) n cL) (by rfl) (ld1 (t := 49) (p := (.tmp 28)) (by rfl) (by rfl) (by kernel_rfl) (hp.cell 0 (by rfl) 5 _ (by rfl))) ?_
  refine sx_rd 30 (.int .i64 (n : Int)) (by rfl) (by kernel_rfl) ?_
  refine sx_rd 31 (.bool ((i : Int) == (n : Int))) (by rfl) (by kernel_rfl) ?_
  refine sx_nil ?_
  refine ex_then_n ?_
  refine sx_cond ((i : Int) == (n : Int)) (by rfl) (fun c_26 => ?_) (fun c_26 => ?_)
  ·
   have c_26p := eq_of_beq_ c_26
   simp only [P2] at hcb hfb
   have hP2 := P2_pos d
   refine wp_seq ?_
   refine sx_region ?_
   refine sx_rd 32 (.pointer (some ⟨g, 0, none⟩)) (by rfl) (by kernel_rfl) ?_
   refine sx_rd 33 (.pointer (some ⟨g, 0, none⟩)) (by rfl) (by kernel_rfl) ?_
   refine sx_rd 34 (.pointer (some ⟨g, 7, none⟩)) (by rfl) (by kernel_rfl) ?_
   refine sx_rd 35 (.int .i64 c) (by rfl) (ld1 (t := 3) (p := (.tmp 34)) (by rfl) (by rfl) (by kernel_rfl) (hp.cell 0 (by rfl) 7 _ (by rfl))) ?_
   refine sx_rd 36 (.int .i64 (c + 1)) (by rfl) (wr_ok (by omega) (by kernel_rfl)) ?_
   refine sx_rd 37 (.pointer (some ⟨g, 0, none⟩)) (by rfl) (by kernel_rfl) ?_
   refine sx_rd 38 (.pointer (some ⟨g, 7, none⟩)) (by rfl) (by kernel_rfl) ?_
   refine sx_store (t := 3) (p := (.tmp 38)) (x := (.tmp 36)) (by rfl) (by rfl) 0 (by rfl) 7 [.int .i64 (c + 1)] (by rfl) (by rfl) (by kernel_rfl) (by simp [Value.oneCell']) (by show 8 ≤ 9; omega) #[.int .i64 w, .int .i64 h, .slice AG C.length cG, .bool an, .slice AH H.length cH, .slice (some ⟨gL, 0, none⟩) n cL, .slice Af fd.length cf, .int .i64 (c + 1), .int .i64 most] (by rfl) hp ?_
   intro W_27 hp; simp only [List.set_cons_succ, List.set_cons_zero] at hp
   refine sx_nil ?_
   refine ex_then_n ?_
   refine wp_seq ?_
   refine wp_seq ?_
   refine sx_drawT [0, 1, 2, 5, 6, 7] (.rd 3 (.rd 4 (.rd 8 (.rd 9 (.fin))))) 10 (C := Hp w0 (blk g #[.int .i64 w, .int .i64 h, .slice AG C.length cG, .bool an, .slice AH H.length cH, .slice (some ⟨gL, 0, none⟩) n cL, .slice Af fd.length cf, .int .i64 (c + 1), .int .i64 most] 52 :: row (Kd.int .u8) 5 w0.heap.size (.slice (some ⟨gL, 0, none⟩) n cL) b FL :: rowS (Kd.slice 5 (Kd.int .u8)) 49 w0.heap.size (.slice Af fd.length cf) fd Fd :: cs)) (by kernel_rfl) (by kernel_rfl) (fun d _ _ _ _ h => by cases d <;> exact h) (fun W h => h.drew) hp ?_
   refine preI_read rfl ?_
   refine sxq_val 39 (.pointer (some ⟨g, 0, none⟩)) (by rfl) (fun W _ => (by kernel_rfl)) ?_
   refine sxq_nil ?_
   refine preI_read rfl ?_
   refine sxq_val 40 (.pointer (some ⟨g, 0, none⟩)) (by rfl) (fun W _ => (by kernel_rfl)) ?_
   refine sxq_nil ?_
   refine preI_read rfl ?_
   refine sxq_val 41 (.pointer (some ⟨g, 6, none⟩)) (by rfl) (fun W _ => (by kernel_rfl)) ?_
   refine sxq_nil ?_
   refine preI_read rfl ?_
   refine sxq_val 44 (.pointer (some ⟨g, 0, none⟩)) (by rfl) (fun W _ => (by kernel_rfl)) ?_
   refine sxq_nil ?_
   refine preI_read rfl ?_
   refine sxq_val 45 (.pointer (some ⟨g, 0, none⟩)) (by rfl) (fun W _ => (by kernel_rfl)) ?_
   refine sxq_nil ?_
   refine preI_read rfl ?_
   refine sxq_val 46 (.pointer (some ⟨g, 8, none⟩)) (by rfl) (fun W _ => (by kernel_rfl)) ?_
   refine sxq_nil ?_
   refine preI_nil ?_
   intro W_28 hp
   refine treeI_rd rfl ?_
   refine sxq_val 42 (.slice Af fd.length cf) (by rfl) (fun W hp => (ld1 (t := 50) (p := (.tmp 41)) (by rfl) (by rfl) (by kernel_rfl) (hp.cell 0 (by rfl) 6 _ (by rfl)))) ?_
   refine sxq_nil ?_
   refine treeI_rd rfl ?_
   refine sxq_val 43 (.int .i64 (fd.length : Int)) (by rfl) (fun W hp => (by kernel_rfl)) ?_
   refine sxq_nil ?_
   refine treeI_rd rfl ?_
   refine sxq_val 47 (.int .i64 most) (by rfl) (fun W hp => (ld1 (t := 3) (p := (.tmp 46)) (by rfl) (by rfl) (by kernel_rfl) (hp.cell 0 (by rfl) 8 _ (by rfl)))) ?_
   refine sxq_nil ?_
   refine treeI_rd rfl ?_
   refine sxq_val 48 (.bool (decide ((fd.length : Int) ≤ most))) (by rfl) (fun W hp => (by kernel_rfl)) ?_
   refine sxq_nil ?_
   refine treeI_fin ?_
   refine sx_nil ?_
   refine ex_then_n ?_
   refine sx_cond (decide ((fd.length : Int) ≤ most)) (by rfl) (fun c_29 => ?_) (fun c_29 => ?_)
   ·
    have c_29p := of_decide_eq_true c_29
    refine sx_drawT [0, 1, 2, 3, 6, 7, 8] (.rd 4 (.rd 9 (.alt 5 (.alt 10 (.alt 11 (.fin) .non) .non) .non))) 12 (C := Hp w0 (blk g #[.int .i64 w, .int .i64 h, .slice AG C.length cG, .bool an, .slice AH H.length cH, .slice (some ⟨gL, 0, none⟩) n cL, .slice Af fd.length cf, .int .i64 (c + 1), .int .i64 most] 52 :: row (Kd.int .u8) 5 w0.heap.size (.slice (some ⟨gL, 0, none⟩) n cL) b FL :: rowS (Kd.slice 5 (Kd.int .u8)) 49 w0.heap.size (.slice Af fd.length cf) fd Fd :: cs)) (by kernel_rfl) (by kernel_rfl) (fun d _ _ _ _ h => by cases d <;> exact h) (fun W h => h.drew) hp ?_
    refine preI_read rfl ?_
    refine sxq_val 49 (.pointer (some ⟨g, 0, none⟩)) (by rfl) (fun W _ => (by kernel_rfl)) ?_
    refine sxq_nil ?_
    refine preI_read rfl ?_
    refine sxq_val 50 (.pointer (some ⟨g, 0, none⟩)) (by rfl) (fun W _ => (by kernel_rfl)) ?_
    refine sxq_nil ?_
    refine preI_read rfl ?_
    refine sxq_val 51 (.pointer (some ⟨g, 0, none⟩)) (by rfl) (fun W _ => (by kernel_rfl)) ?_
    refine sxq_nil ?_
    refine preI_read rfl ?_
    refine sxq_val 52 (.pointer (some ⟨g, 6, none⟩)) (by rfl) (fun W _ => (by kernel_rfl)) ?_
    refine sxq_nil ?_
    refine preI_read rfl ?_
    refine sxq_val 55 (.pointer (some ⟨g, 0, none⟩)) (by rfl) (fun W _ => (by kernel_rfl)) ?_
    refine sxq_nil ?_
    refine preI_read rfl ?_
    refine sxq_val 56 (.pointer (some ⟨g, 0, none⟩)) (by rfl) (fun W _ => (by kernel_rfl)) ?_
    refine sxq_nil ?_
    refine preI_read rfl ?_
    refine sxq_val 57 (.pointer (some ⟨g, 5, none⟩)) (by rfl) (fun W _ => (by kernel_rfl)) ?_
    refine sxq_nil ?_
    refine preI_nil ?_
    intro W_30 hp
    refine treeI_rd rfl ?_
    refine sxq_val 53 (.slice Af fd.length cf) (by rfl) (fun W hp => (ld1 (t := 50) (p := (.tmp 52)) (by rfl) (by rfl) (by kernel_rfl) (hp.cell 0 (by rfl) 6 _ (by rfl)))) ?_
    refine sxq_nil ?_
    refine treeI_rd rfl ?_
    refine sxq_val 58 (.slice (some ⟨gL, 0, none⟩) n cL) (by rfl) (fun W hp => (ld1 (t := 49) (p := (.tmp 57)) (by rfl) (by rfl) (by kernel_rfl) (hp.cell 0 (by rfl) 5 _ (by rfl)))) ?_
    refine sxq_nil ?_
    refine treeI_ev rfl ?_
    refine sx_lit 54 (by rfl) (Kd.int .u8) w0.heap.size 5 ([] : List Int) [] (fun W => by kernel_rfl) (Reps.none _ _) (by simp) hp.size hp ?_
    intro g_31 F_32 W_33 hp hz; clear hz
    refine step_fin hp.tail ?_
    refine treeI_ev rfl ?_
    refine sx_append 59 (by rfl) (Kd.int .u8) 0 (by rfl) (.int .u8 0) 1 (by rfl) Tryz.underlying49 (by kernel_rfl) rfl (by decide) (by decide) b (by rfl) (by rw [hbn]; rfl) (row_C (hp.at_ 2 _ (by rfl))) (fun x cs h => h) hp.size (by first | omega | (simp; done) | (simp; omega)) hp ?_
    intro A_34 c_35 F_36 W_37 hp hz; clear hz; simp only [List.set_cons_succ, List.set_cons_zero] at hp
    refine step_fin hp.tail ?_
    refine treeI_ev rfl ?_
    refine sx_blit 60 (by rfl) (hv := .slice A_34 b.length c_35) (e := 49) (fun W => by kernel_rfl) hp ?_
    intro g_38 W_39 hp
    refine step_fin hp.tail.tail ?_
    refine treeI_fin ?_
    refine tail_of [12, 13, 14, 15] (by rfl) ?_
    refine tailI_op rfl ?_
    have hp := (hp.take [4, 1, 0, 2, 3] 5 (by decide) (by simp))
    refine sx_pushP 61 (by rfl) (t := 50) (.slice none 0 0) 24 (by rfl) Tryz.underlying50 (by kernel_rfl) rfl (by decide) (by rfl) (by rfl) hp.size (by omega) hp ?_
    intro A_40 c_41 F_42 W_43 hp
    refine tailI_next ?_
    refine tailI_op rfl ?_
    refine sx_rd 62 (.pointer (some ⟨g, 0, none⟩)) (by rfl) (by kernel_rfl) ?_
    refine tailI_next ?_
    refine tailI_op rfl ?_
    refine sx_rd 63 (.pointer (some ⟨g, 6, none⟩)) (by rfl) (by kernel_rfl) ?_
    refine tailI_next ?_
    refine tailI_op rfl ?_
    refine sx_store (t := 50) (p := (.tmp 63)) (x := (.tmp 61)) (by rfl) (by rfl) 2 (by rfl) 6 [.slice A_40 ((fd ++ [b]).length) c_41] (by rfl) (by rfl) (by kernel_rfl) (by simp [Value.oneCell']) (by show 7 ≤ 9; omega) #[.int .i64 w, .int .i64 h, .slice AG C.length cG, .bool an, .slice AH H.length cH, .slice (some ⟨gL, 0, none⟩) n cL, .slice A_40 ((fd ++ [b]).length) c_41, .int .i64 (c + 1), .int .i64 most] (by rfl) hp ?_
    intro W_44 hp; simp only [List.set_cons_succ, List.set_cons_zero] at hp
    refine tailI_next ?_
    refine tailI_nil ?_
    refine ex_then_n ?_
    refine wp_ret ?_
    refine ex_then_r ?_
    refine sx_end (.tuple #[]) (res0 (by rfl)) ?_
    obtain rfl : i = n := by omega
    have hff : ffN b a = b.length := ffN_end (by omega) (fun j h1 h2 => hsk j h1 (by omega))
    have hL : (lvs (nxS an C) w (i : Int) (d + 1) b a H).map Prod.fst = [b] := by rw [lvs_succ, if_pos hff]; rfl
    rw [hL, addF_one, if_pos c_29p, show c + ((([b] : List (List Int)).length : Nat) : Int) = c + 1 by simp]
    exact ⟨_, _, _, _, rfl, (rowS_len (hp.at_ 0 _ (by rfl))).2, (hp.take [2, 3, 0] 4 (by decide) (by simp))⟩
   ·
    have c_29p := of_decide_eq_false c_29
    refine wp_skip ?_
    refine ex_then_n ?_
    refine wp_ret ?_
    refine ex_then_r ?_
    refine sx_end (.tuple #[]) (res0 (by rfl)) ?_
    obtain rfl : i = n := by omega
    have hff : ffN b a = b.length := ffN_end (by omega) (fun j h1 h2 => hsk j h1 (by omega))
    have hL : (lvs (nxS an C) w (i : Int) (d + 1) b a H).map Prod.fst = [b] := by rw [lvs_succ, if_pos hff]; rfl
    rw [hL, addF_one, if_neg c_29p, show c + ((([b] : List (List Int)).length : Nat) : Int) = c + 1 by simp]
    exact ⟨_, _, _, _, rfl, hfc, (hp.take [0, 1, 2] 3 (by decide) (by simp))⟩
  ·
   have c_26p := ne_of_beq_ c_26
   simp only [P2] at hcb hfb
   have hP2 := P2_pos d
   have hlt : i < n := by omega
   have hfree : rd b (i : Int) = 0 := by exact absurd c_26p (by omega)
   refine wp_skip ?_
   refine ex_then_n ?_
   refine wp_seq ?_
   refine sx_region ?_
   refine sx_rd 65 (.pointer (some ⟨g, 0, none⟩)) (by rfl) (by kernel_rfl) ?_
   refine sx_rd 66 (.pointer (some ⟨g, 0, none⟩)) (by rfl) (by kernel_rfl) ?_
   refine sx_rd 67 (.pointer (some ⟨g, 0, none⟩)) (by rfl) (by kernel_rfl) ?_
   refine sx_rd 68 (.agg #[.int .i64 w, .int .i64 h, .slice AG C.length cG]) (by rfl) (ldn (t := 44) (p := (.tmp 67)) (by rfl) (by rfl) (by kernel_rfl) (by kernel_rfl) (by kernel_rfl) (hp.at_ 0 _ (by rfl))) ?_
   refine sx_rd 69 (.int .i64 (i : Int)) (by rfl) (by kernel_rfl) ?_
   refine sx_call 70 (by rfl) (by kernel_rfl) ((near_sx w h n i AG C.length cG hw1 hw2 hh1 hh2 hwh hn hlt hp).mono ?_)
   rintro _ W_45 ⟨rfl, hp⟩
   refine ⟨_, rfl, ?_⟩
   refine sx_rd 64 (.tuple #[.int .i64 (nearE w (i : Int)), .int .i64 (nearS w n (i : Int))]) (by rfl) (by kernel_rfl) ?_
   refine sx_rd 71 (.int .i64 (nearE w (i : Int))) (by rfl) (by kernel_rfl) ?_
   refine sx_rd 72 (.int .i64 (nearS w n (i : Int))) (by rfl) (by kernel_rfl) ?_
   refine sx_rd 4 (.int .i64 (nearE w (i : Int))) (by rfl) (by kernel_rfl) ?_
   refine sx_rd 5 (.int .i64 (nearS w n (i : Int))) (by rfl) (by kernel_rfl) ?_
   refine sx_nil ?_
   refine ex_then_n ?_
   refine wp_seq ?_
   refine sx_region ?_
   refine sx_rd 73 (.pointer (some ⟨g, 0, none⟩)) (by rfl) (by kernel_rfl) ?_
   refine sx_rd 74 (.int .i64 (i : Int)) (by rfl) (by kernel_rfl) ?_
   refine sx_rd 75 (.int .i64 (nearE w (i : Int))) (by rfl) (by kernel_rfl) ?_
   have hpb1 : ((((putL (nxS an C) (lvs (nxS an C) w (n : Int) d) b i (nearE w (i : Int)) 101 119 H).map Prod.fst).length : Nat) : Int) ≤ P2 d := by rw [List.length_map]; exact putL_bd d b i (nearE w (i : Int)) 101 119 H
   have hal1 := addF_len most ((putL (nxS an C) (lvs (nxS an C) w (n : Int) d) b i (nearE w (i : Int)) 101 119 H).map Prod.fst) fd
   refine sx_call 76 (by rfl) (by kernel_rfl) (((hP _ (cs) g gL w h n b i (nearE w (i : Int)) 101 119 c most an C AG cG H AH cH cL FL fd Af cf Fd hw1 hw2 hh1 hh2 hwh hn hbn hCn hcG (fun W h => hG W h) hHn hcH (fun W h => hH W h) (by omega) (by omega) (by omega) hfc hlt hfree (nearE_bd hw1 hwh (by omega) (by omega)) (by decide) (by omega) (hp.take [0, 1, 2] 3 (by decide) (by simp)))).mono ?_)
   rintro _ W_46 ⟨FL1, Fd1, Af1, cf1, rfl, hfc1, hp⟩
   refine ⟨_, rfl, ?_⟩
   refine sx_nil ?_
   refine ex_then_n ?_
   refine sx_region ?_
   refine sx_rd 77 (.pointer (some ⟨g, 0, none⟩)) (by rfl) (by kernel_rfl) ?_
   refine sx_rd 78 (.int .i64 (i : Int)) (by rfl) (by kernel_rfl) ?_
   refine sx_rd 79 (.int .i64 (nearS w n (i : Int))) (by rfl) (by kernel_rfl) ?_
   have hpb2 : ((((putL (nxS an C) (lvs (nxS an C) w (n : Int) d) b i (nearS w n (i : Int)) 115 110 H).map Prod.fst).length : Nat) : Int) ≤ P2 d := by rw [List.length_map]; exact putL_bd d b i (nearS w n (i : Int)) 115 110 H
   have hal2 := addF_len most ((putL (nxS an C) (lvs (nxS an C) w (n : Int) d) b i (nearS w n (i : Int)) 115 110 H).map Prod.fst) (addF most fd ((putL (nxS an C) (lvs (nxS an C) w (n : Int) d) b i (nearE w (i : Int)) 101 119 H).map Prod.fst))
   refine sx_call 80 (by rfl) (by kernel_rfl) (((hP _ (cs) g gL w h n b i (nearS w n (i : Int)) 115 110 (c + (((putL (nxS an C) (lvs (nxS an C) w (n : Int) d) b i (nearE w (i : Int)) 101 119 H).map Prod.fst).length : Int)) most an C AG cG H AH cH cL FL1 (addF most fd ((putL (nxS an C) (lvs (nxS an C) w (n : Int) d) b i (nearE w (i : Int)) 101 119 H).map Prod.fst)) Af1 cf1 Fd1 hw1 hw2 hh1 hh2 hwh hn hbn hCn hcG (fun W h => hG W h) hHn hcH (fun W h => hH W h) (by omega) (by omega) (by omega) hfc1 hlt hfree (nearS_bd hw1 (by omega) (by omega)) (by decide) (by omega) (hp.take [0, 1, 2] 3 (by decide) (by simp)))).mono ?_)
   rintro _ W_47 ⟨FL2, Fd2, Af2, cf2, rfl, hfc2, hp⟩
   refine ⟨_, rfl, ?_⟩
   refine sx_nil ?_
   refine sx_end_n (.tuple #[]) (res0 (by rfl)) ?_
   have hff : ffN b a = i := ffN_hit hai (by omega) hsk hfree
   have hL : (lvs (nxS an C) w (n : Int) (d + 1) b a H).map Prod.fst = ((putL (nxS an C) (lvs (nxS an C) w (n : Int) d) b i (nearE w (i : Int)) 101 119 H).map Prod.fst) ++ ((putL (nxS an C) (lvs (nxS an C) w (n : Int) d) b i (nearS w n (i : Int)) 115 110 H).map Prod.fst) := by rw [lvs_succ, if_neg (by omega), hff, List.map_append]
   rw [hL, addF_append, List.length_append, Int.natCast_add, ← Int.add_assoc]
   exact ⟨_, _, _, _, rfl, hfc2, (hp.take [0, 1, 2] 3 (by decide) (by simp))⟩
theorem lookS_all (w0 : World) : ∀ d, LookS w0 d := by
 intro d
 induction d with
 | zero => intro W cs g gL w h n b a c most an C AG cG H AH cH cL FL fd Af cf Fd hw1 hw2 hh1 hh2 hwh hn hbn hCn hcG hG hHn hcH hH hc0 hcb hfb hfc han hdn; omega
 | succ d ih => exact lookS_of w0 d (putS_of w0 d ih)
end Go.Proofs.YtokkiiepddhkiaaGreatDoor.Hd
