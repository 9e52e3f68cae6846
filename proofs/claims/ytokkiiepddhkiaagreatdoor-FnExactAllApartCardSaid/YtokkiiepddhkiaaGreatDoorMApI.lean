/- impl.apart's closures, by hand. -/
import Derived.Test.YtokkiiepddhkiaaGreatDoorMLayW
import Derived.Test.YtokkiiepddhkiaaGreatDoorMForm
import Derived.Test.YtokkiiepddhkiaaGreatDoorPApA
import Derived.Test.YtokkiiepddhkiaaGreatDoorMTileR
import Derived.Test.YtokkiiepddhkiaaGreatDoorMSx4
import Derived.Test.YtokkiiepddhkiaaGreatDoorG2
import Derived.Test.YtokkiiepddhkiaaGreatDoorMSxG
namespace Go.Proofs.YtokkiiepddhkiaaGreatDoor.Hd
open Go Go.RowKit Go.Maps Go.Proofs.YtokkiiepddhkiaaGreatDoor.Pure Go.Proofs.YtokkiiepddhkiaaGreatDoorW.PrintWords Go.Proofs.YtokkiiepddhkiaaGreatDoorW.PrintLast Go.Proofs.YtokkiiepddhkiaaGreatDoorW.PrintMore
theorem tl_laid : laidOutB Tryz.prog = true := by kernel_rfl
theorem tl_row : (55 : TypeId) < Tryz.prog.types.size := of_decide_eq_true (by kernel_rfl)
theorem tl_key : Keyed Tryz.prog 55 := Keyed.of_law (deep_law_laid tl_laid (m := 2) (by omega) tl_row (by kernel_rfl) (by rw [Tryz.underlying55]))
theorem tl_all : (List.range 10).all (fun a => (List.range 10).all fun b => (keyOf Tryz.prog 55 (.agg #[.int .i64 (a : Int), .int .i64 (b : Int)])).isSome) = true := by kernel_rfl
theorem tl_some {t : S_Tile} (h : (0 ≤ t.f0 ∧ t.f0 ≤ 9) ∧ 0 ≤ t.f1 ∧ t.f1 ≤ 9) : (keyOf Tryz.prog 55 (tvK t)).isSome = true := by
  obtain ⟨a, b⟩ := t
  obtain ⟨⟨h1, h2⟩, h3, h4⟩ := h
  simp only at h1 h2 h3 h4
  have q := List.all_eq_true.1 (List.all_eq_true.1 tl_all a.toNat (List.mem_range.2 (by omega))) b.toNat (List.mem_range.2 (by omega))
  rw [Int.toNat_of_nonneg h1, Int.toNat_of_nonneg h3] at q
  exact q
end Go.Proofs.YtokkiiepddhkiaaGreatDoor.Hd
namespace Go.Proofs.YtokkiiepddhkiaaGreatDoor.Hd
open Go Go.RowKit Go.Proofs.YtokkiiepddhkiaaGreatDoor.Pure Go.Proofs.YtokkiiepddhkiaaGreatDoorW.PrintWords Go.Proofs.YtokkiiepddhkiaaGreatDoorW.PrintLast Go.Proofs.YtokkiiepddhkiaaGreatDoorW.PrintMore
set_option linter.unusedVariables false
set_option linter.unusedSimpArgs false
/-- A function value that apart calls with each text: its number, what it has captured, its state's piece, what it does. -/
structure Ec (α γ : Type) where
  fe : Nat
  ce : Array Value
  Y : α → γ → Chunk
  ea : α → ByteArray → Bool × α
  inv : Nat → α → γ → Prop
structure EcOk {α γ : Type} (E : Ec α γ) (w0 : World) : Prop where
  enE : ∀ args w, (callFunc E.fe args).run Tryz.prog w = .ok (.enter E.fe args) w
  mono : ∀ q q' a g, q' ≤ q → E.inv q a g → E.inv q' a g
  call : ∀ (cs : List Chunk) (W : World) (q : Nat) (a : α) (g : γ) (x : ByteArray), E.inv (q + 1) a g → x.size ≤ 1000 → Hp w0 (E.Y a g :: cs) W → Calls Tryz.prog E.fe (#[.string x] ++ E.ce) W fun e W' => ∃ g', e = .returned (.bool ((E.ea a x).1)) ∧ E.inv q (E.ea a x).2 g' ∧ Hp w0 (E.Y (E.ea a x).2 g' :: cs) W'
/-- apart's three function values. -/
def apCb {α γ : Type} (E : Ec α γ) (s : ByteArray) (gc gl ge gw bm : Nat) : Cb ((S_Tile → Bool) × α) (Nat × γ) where
  ft := 62
  ct := #[.pointer (some ⟨gc, 0, none⟩), .pointer (some ⟨gl, 0, none⟩)]
  fb := 63
  cb := #[.pointer (some ⟨gl, 0, none⟩), .pointer (some ⟨gc, 0, none⟩)]
  fe := 64
  ce := #[.pointer (some ⟨ge, 0, none⟩), .pointer (some ⟨gw, 0, none⟩)]
  X t g := grp [tileM Tryz.prog 55 bm g.1 t.1, blk gc #[.string (flatB s)] 9, blk gl #[.map (some bm)] 81, blk ge #[.func (.func E.fe) #[] E.ce] 41, blk gw #[.int .i64 (Pure.w0 (rowsB s) : Int)] 3, E.Y t.2 g.2]
  S := seaA s E.ea
  inv q t g := g.1 + q ≤ 1099511627776 ∧ E.inv q t.2 g.2
theorem row_capA {α : Type} {d : Kd α} {e base : Nat} {A : Option Addr} {n c : Nat} {xs : List α} {F : Nat → Prop} {W : World} (h : (row d e base (.slice A n c) xs F).ok W) : c ≤ 9223372036854775807 := by
  obtain ⟨-, inner, ho, hr⟩ := row_R h
  rcases ho.2 with ⟨h2, _⟩ | ⟨g', cap', cur, he, hb, hh, hc, hm, hcs, htk⟩
  · injection h2 with _ _ h3; omega
  · injection he with _ _ h3
    subst h3
    exact hm
theorem form_C (gL wd R n cL : Nat) (b : List Int) (hw : 1 ≤ wd) (hN : R * wd = n) (hn : n ≤ 1000) (hbl : b.length = n) (hbb : ∀ x ∈ b, 0 ≤ x ∧ x < 256) {e base : Nat} {FL : Nat → Prop} {W : World} (h : (row (Kd.int .u8) e base (.slice (some ⟨gL, 0, none⟩) n cL) b FL).ok W) :
    Calls Tryz.prog 65 #[.slice (some ⟨gL, 0, none⟩) n cL, .int .i64 (wd : Int)] W fun e W' => e = .returned (.string (formT wd R b)) ∧ Below W.heap.size W W' := by
  subst hbl
  refine (callsIn_wide (n := 4)).1 (form_in 4 (by omega) gL wd R b.length cL b hw hN hn (row_len h).2 (row_capA h) rfl hbb W (fun j hj => ?_))
  have hC := row_C h
  have q := el_cell (d := Kd.int .u8) hC 0 (j : Int) (by omega) (by omega) (cells := [.int .u8 (rd b (j : Int))]) (fun cs h => h) 0 _ rfl
  have e4 : (adr (some ⟨gL, 0, none⟩) (j : Int) (Kd.int .u8).sz).add 0 = ⟨gL, j, none⟩ := by
    unfold adr
    rw [add_add, Option.getD_some]
    show Addr.add ⟨gL, 0, none⟩ ((j : Int).toNat * 1 + 0) = _
    rw [Int.toNat_natCast, Nat.mul_one, Nat.add_zero]
    unfold Addr.add
    split
    · rename_i q; rw [q]
    · simp
  rw [e4] at q
  exact q
set_option maxRecDepth 100000 in
set_option maxHeartbeats 40000000 in
theorem aptake_sx {w0 W : World} {cs : List Chunk} (s : ByteArray) (ht : isTab s = true) (gc gl bm nn : Nat) (m : S_Tile → Bool) (i j : Nat) (hi : i < (cells s).length) (hj : j < (cells s).length) (hnn : nn < 1099511627776) (hp : Hp w0 (tileM Tryz.prog 55 bm nn m :: blk gc #[.string (flatB s)] 9 :: blk gl #[.map (some bm)] 81 :: cs) W) :
  Calls Tryz.prog 62 #[.int .i64 (i : Int), .int .i64 (j : Int), .pointer (some ⟨gc, 0, none⟩), .pointer (some ⟨gl, 0, none⟩)] W fun e W' => e = .returned (.bool (m (tilT s i j) == true)) ∧ Hp w0 (tileM Tryz.prog 55 bm (nn + 1) (upd m (tilT s i j) false) :: blk gc #[.string (flatB s)] 9 :: blk gl #[.map (some bm)] 81 :: cs) W' := by
 refine sx_enter (N := 19) (l := [.int .i64 (i : Int), .int .i64 (j : Int), .pointer (some ⟨gc, 0, none⟩), .pointer (some ⟨gl, 0, none⟩)]) Tryz.func62 rfl rfl rfl ?_
 refine wp_seq ?_
 refine sx_region ?_
 refine sx_rd 6 (.bool false) (by rfl) (by kernel_rfl) ?_
 refine sx_nil ?_
 refine ex_then_n ?_
 refine wp_seq ?_
 refine sx_region ?_
 refine sx_rd 9 (.string (flatB s)) (by rfl) (ld1 (t := 9) (p := (.tmp 2)) (by rfl) (by rfl) (by kernel_rfl) (hp.cell 1 (by rfl) 0 _ (by rfl))) ?_
 refine sx_rd 10 (.int .i64 (i : Int)) (by rfl) (by kernel_rfl) ?_
 refine sx_rd 11 (.int .i64 (j : Int)) (by rfl) (by kernel_rfl) ?_
 refine sx_call 12 (by rfl) (by kernel_rfl) ((impl_at.calls (flatB s) (i : Int) (j : Int) _ _ _ (at_eq ht (i : Int) (j : Int) ⟨by omega, by omega⟩ ⟨by omega, by omega⟩)).mono ?_)
 rintro _ W_1 ⟨rfl, hb⟩
 refine ⟨_, rfl, ?_⟩
 replace hp := hp.below hb
 clear hb
 refine sx_box 7 hp #[.int .i64 0, .int .i64 0] 55 (by rfl) (fun W => by kernel_rfl) ?_
 intro g_2 W_3 hp
 refine sx_store (t := 55) (p := (.tmp 7)) (x := (.tmp 12)) (by rfl) (by rfl) 0 (by rfl) 0 [.int .i64 ((tilT s i j).f0), .int .i64 ((tilT s i j).f1)] (by rfl) (by rfl) (by kernel_rfl) (by simp [Value.oneCell']) (by show 2 ≤ 2; omega) #[.int .i64 ((tilT s i j).f0), .int .i64 ((tilT s i j).f1)] (by rfl) hp ?_
 intro W_4 hp; simp only [List.set_cons_succ, List.set_cons_zero] at hp
 refine sx_nil ?_
 refine ex_then_n ?_
 refine wp_seq ?_
 refine sx_region ?_
 refine sx_rd 13 (.map (some bm)) (by rfl) (ld1 (t := 81) (p := (.tmp 3)) (by rfl) (by rfl) (by kernel_rfl) (hp.cell 3 (by rfl) 0 _ (by rfl))) ?_
 refine sx_rd 14 (.agg #[.int .i64 ((tilT s i j).f0), .int .i64 ((tilT s i j).f1)]) (by rfl) (ldn (t := 55) (p := (.tmp 7)) (by rfl) (by rfl) (by kernel_rfl) (by kernel_rfl) (by kernel_rfl) (hp.at_ 0 _ (by rfl))) ?_
 refine sx_rd 15 (.bool (m (tilT s i j))) (by rfl) (tm_look tl_key (by rfl) (by rfl) (x := (tilT s i j)) (by rfl) Tryz.underlying81 (fun w => by kernel_rfl) (tl_some (tilT_good ht hi hj)) (hp.at_ 1 _ (by rfl))) ?_
 refine sx_rd 8 (.bool (m (tilT s i j))) (by rfl) (by kernel_rfl) ?_
 refine sx_nil ?_
 refine ex_then_n ?_
 refine wp_seq ?_
 refine sx_region ?_
 refine sx_rd 16 (.map (some bm)) (by rfl) (ld1 (t := 81) (p := (.tmp 3)) (by rfl) (by rfl) (by kernel_rfl) (hp.cell 3 (by rfl) 0 _ (by rfl))) ?_
 refine sx_rd 17 (.agg #[.int .i64 ((tilT s i j).f0), .int .i64 ((tilT s i j).f1)]) (by rfl) (ldn (t := 55) (p := (.tmp 7)) (by rfl) (by rfl) (by kernel_rfl) (by kernel_rfl) (by kernel_rfl) (hp.at_ 0 _ (by rfl))) ?_
 refine sx_tmput (n := nn) tl_key (by rfl) (by rfl) (by rfl) (x := (tilT s i j)) (v := false) (by rfl) (by rfl) Tryz.underlying81 (by simp only [maxLen]; omega) (tl_some (tilT_good ht hi hj)) 1 (by rfl) hp ?_
 intro W_5 hp; simp only [List.set_cons_succ, List.set_cons_zero] at hp
 refine sx_nil ?_
 refine ex_then_n ?_
 refine wp_seq ?_
 refine sx_region ?_
 refine sx_rd 18 (.bool (m (tilT s i j))) (by rfl) (by kernel_rfl) ?_
 refine sx_rd 6 (.bool (m (tilT s i j))) (by rfl) (by kernel_rfl) ?_
 refine sx_nil ?_
 refine ex_then_n ?_
 refine wp_ret ?_
 refine sx_end (.bool (m (tilT s i j))) (res1 6 (by rfl)) ?_
 exact ⟨congrArg (fun z => Ending.returned (.bool z)) (show m (tilT s i j) = (m (tilT s i j) == true) by cases m (tilT s i j) <;> rfl), (hp.take [1, 2, 3] 4 (by decide) (by simp))⟩
set_option maxRecDepth 100000 in
set_option maxHeartbeats 40000000 in
theorem apback_sx {w0 W : World} {cs : List Chunk} (s : ByteArray) (ht : isTab s = true) (gc gl bm nn : Nat) (m : S_Tile → Bool) (i j : Nat) (hi : i < (cells s).length) (hj : j < (cells s).length) (hnn : nn < 1099511627776) (hp : Hp w0 (tileM Tryz.prog 55 bm nn m :: blk gc #[.string (flatB s)] 9 :: blk gl #[.map (some bm)] 81 :: cs) W) :
    Calls Tryz.prog 63 #[.int .i64 (i : Int), .int .i64 (j : Int), .pointer (some ⟨gl, 0, none⟩), .pointer (some ⟨gc, 0, none⟩)] W fun e W' => e = .returned (.tuple #[]) ∧ Hp w0 (tileM Tryz.prog 55 bm (nn + 1) (upd m (tilT s i j) true) :: blk gc #[.string (flatB s)] 9 :: blk gl #[.map (some bm)] 81 :: cs) W' := by
  refine sx_enter (N := 11) (l := [.int .i64 (i : Int), .int .i64 (j : Int), .pointer (some ⟨gl, 0, none⟩), .pointer (some ⟨gc, 0, none⟩)]) Tryz.func63 rfl rfl rfl ?_
  refine sx_drawT [2, 3] (.rd 0 (.rd 1 (.alt 4 (.fin) .non))) 5 (C := Hp w0 (tileM Tryz.prog 55 bm nn m :: blk gc #[.string (flatB s)] 9 :: blk gl #[.map (some bm)] 81 :: cs)) (by kernel_rfl) (by kernel_rfl) (fun d _ _ _ _ h => by cases d <;> exact h) (fun W h => h.drew) hp ?_
  refine preI_read rfl ?_
  refine sxq_val 8 (.int .i64 (i : Int)) (by rfl) (fun W _ => (by kernel_rfl)) ?_
  refine sxq_nil ?_
  refine preI_read rfl ?_
  refine sxq_val 9 (.int .i64 (j : Int)) (by rfl) (fun W _ => (by kernel_rfl)) ?_
  refine sxq_nil ?_
  refine preI_nil ?_
  intro W_1 hp
  refine treeI_rd rfl ?_
  refine sxq_val 6 (.map (some bm)) (by rfl) (fun W hp => (ld1 (t := 81) (p := (.tmp 2)) (by rfl) (by rfl) (by kernel_rfl) (hp.cell 2 (by rfl) 0 _ (by rfl)))) ?_
  refine sxq_nil ?_
  refine treeI_rd rfl ?_
  refine sxq_val 7 (.string (flatB s)) (by rfl) (fun W hp => (ld1 (t := 9) (p := (.tmp 3)) (by rfl) (by rfl) (by kernel_rfl) (hp.cell 1 (by rfl) 0 _ (by rfl)))) ?_
  refine sxq_nil ?_
  refine treeI_ev rfl ?_
  refine sx_call 10 (by rfl) (by kernel_rfl) ((impl_at.calls (flatB s) (i : Int) (j : Int) _ _ _ (at_eq ht (i : Int) (j : Int) ⟨by omega, by omega⟩ ⟨by omega, by omega⟩)).mono ?_)
  rintro _ W_2 ⟨rfl, hb⟩
  refine ⟨_, rfl, ?_⟩
  replace hp := hp.below hb
  clear hb
  refine step_fin hp ?_
  refine treeI_fin ?_
  refine tail_of [5] (by rfl) ?_
  refine tailI_op rfl ?_
  refine sx_tmput (n := nn) tl_key (by rfl) (by rfl) (by rfl) (x := (tilT s i j)) (v := true) (by rfl) (by rfl) Tryz.underlying81 (by simp only [maxLen]; omega) (tl_some (tilT_good ht hi hj)) 0 (by rfl) hp ?_
  intro W_3 hp; simp only [List.set_cons_succ, List.set_cons_zero] at hp
  refine tailI_next ?_
  refine tailI_nil ?_
  refine sx_end_n (.tuple #[]) (res0 (by rfl)) ?_
  exact ⟨rfl, (hp.take [0, 1, 2] 3 (by decide) (by simp))⟩
set_option maxRecDepth 100000 in
set_option maxHeartbeats 40000000 in
theorem apeach_sx {α γ : Type} (E : Ec α γ) {w0 W : World} {cs : List Chunk} (hok : EcOk E w0) (s : ByteArray) (ht : isTab s = true) (ge gw gL n cL q : Nat) (a : α) (g : γ) (b : List Int) (FL : Nat → Prop) (hn : n = (cells s).length) (hbl : b.length = n) (hbb : ∀ x ∈ b, 0 ≤ x ∧ x < 256) (hiv : E.inv (q + 1) a g) (hp : Hp w0 (blk ge #[.func (.func E.fe) #[] E.ce] 41 :: blk gw #[.int .i64 (Pure.w0 (rowsB s) : Int)] 3 :: E.Y a g :: row (Kd.int .u8) 5 w0.heap.size (.slice (some ⟨gL, 0, none⟩) n cL) b FL :: cs) W) :
    Calls Tryz.prog 64 #[.slice (some ⟨gL, 0, none⟩) n cL, .pointer (some ⟨ge, 0, none⟩), .pointer (some ⟨gw, 0, none⟩)] W fun e W' => ∃ g', e = .returned (.bool ((E.ea a (formT (Pure.w0 (rowsB s)) (rowsB s).length b)).1)) ∧ E.inv q (E.ea a (formT (Pure.w0 (rowsB s)) (rowsB s).length b)).2 g' ∧ Hp w0 (blk ge #[.func (.func E.fe) #[] E.ce] 41 :: blk gw #[.int .i64 (Pure.w0 (rowsB s) : Int)] 3 :: E.Y ((E.ea a (formT (Pure.w0 (rowsB s)) (rowsB s).length b)).2) g' :: row (Kd.int .u8) 5 w0.heap.size (.slice (some ⟨gL, 0, none⟩) n cL) b FL :: cs) W' := by
  have hd := tab_dim ht
  have hsz : (formT (Pure.w0 (rowsB s)) (rowsB s).length b).size ≤ 1000 := by have q := formT_size (Pure.w0 (rowsB s)) (rowsB s).length b; rw [hd.2.1] at q; omega
  refine sx_enter (N := 10) (l := [.slice (some ⟨gL, 0, none⟩) n cL, .pointer (some ⟨ge, 0, none⟩), .pointer (some ⟨gw, 0, none⟩)]) Tryz.func64 rfl rfl rfl ?_
  refine wp_seq ?_
  refine sx_region ?_
  refine sx_rd 4 (.bool false) (by rfl) (by kernel_rfl) ?_
  refine sx_nil ?_
  refine ex_then_n ?_
  refine wp_seq ?_
  refine sx_drawT [1] (.rd 0 (.rd 2 (.alt 3 (.fin) .non))) 4 (C := Hp w0 (blk ge #[.func (.func E.fe) #[] E.ce] 41 :: blk gw #[.int .i64 (Pure.w0 (rowsB s) : Int)] 3 :: E.Y a g :: row (Kd.int .u8) 5 w0.heap.size (.slice (some ⟨gL, 0, none⟩) n cL) b FL :: cs)) (by kernel_rfl) (by kernel_rfl) (fun d _ _ _ _ h => by cases d <;> exact h) (fun W h => h.drew) hp ?_
  refine preI_read rfl ?_
  refine sxq_val 6 (.slice (some ⟨gL, 0, none⟩) n cL) (by rfl) (fun W _ => (by kernel_rfl)) ?_
  refine sxq_nil ?_
  refine preI_nil ?_
  intro W_1 hp
  refine treeI_rd rfl ?_
  refine sxq_val 5 (.func (.func E.fe) #[] E.ce) (by rfl) (fun W hp => (ld1 (t := 41) (p := (.tmp 1)) (by rfl) (by rfl) (by kernel_rfl) (hp.cell 0 (by rfl) 0 _ (by rfl)))) ?_
  refine sxq_nil ?_
  refine treeI_rd rfl ?_
  refine sxq_val 7 (.int .i64 (Pure.w0 (rowsB s) : Int)) (by rfl) (fun W hp => (ld1 (t := 3) (p := (.tmp 2)) (by rfl) (by rfl) (by kernel_rfl) (hp.cell 1 (by rfl) 0 _ (by rfl)))) ?_
  refine sxq_nil ?_
  refine treeI_ev rfl ?_
  refine sx_call 8 (by rfl) (by kernel_rfl) (((form_C gL (Pure.w0 (rowsB s)) (rowsB s).length n cL b hd.2.2.2.1 (by rw [hd.2.1]; exact hn.symm) (by omega) hbl hbb (hp.at_ 3 _ (by rfl)))).mono ?_)
  rintro _ W_2 ⟨rfl, hb⟩
  refine ⟨_, rfl, ?_⟩
  replace hp := hp.below hb
  clear hb
  refine step_fin hp ?_
  refine treeI_fin ?_
  refine tail_of [4, 5] (by rfl) ?_
  refine tailI_op rfl ?_
  refine sx_call 9 (by rfl) (callv_run (by rfl) (by rfl) hok.enE (by rfl)) (((hok.call (blk ge #[.func (.func E.fe) #[] E.ce] 41 :: blk gw #[.int .i64 (Pure.w0 (rowsB s) : Int)] 3 :: row (Kd.int .u8) 5 w0.heap.size (.slice (some ⟨gL, 0, none⟩) n cL) b FL :: cs) _ q a g (formT (Pure.w0 (rowsB s)) (rowsB s).length b) hiv hsz (hp.take [2, 0, 1, 3] 4 (by decide) (by simp)))).mono ?_)
  rintro _ W_3 ⟨g9, rfl, hi9, hp⟩
  refine ⟨_, rfl, ?_⟩
  refine tailI_next ?_
  refine tailI_op rfl ?_
  refine sx_rd 4 (.bool ((E.ea a (formT (Pure.w0 (rowsB s)) (rowsB s).length b)).1)) (by rfl) (by kernel_rfl) ?_
  refine tailI_next ?_
  refine tailI_nil ?_
  refine ex_then_n ?_
  refine wp_ret ?_
  refine sx_end (.bool ((E.ea a (formT (Pure.w0 (rowsB s)) (rowsB s).length b)).1)) (res1 4 (by rfl)) ?_
  exact ⟨g9, rfl, hi9, (hp.take [1, 2, 0, 3] 4 (by decide) (by simp))⟩
set_option maxRecDepth 100000 in
set_option maxHeartbeats 40000000 in
theorem ap_ok {α γ : Type} (E : Ec α γ) (w0 : World) (hok : EcOk E w0) (s : ByteArray) (ht : isTab s = true) (gc gl ge gw bm : Nat) : CbOk (apCb E s gc gl ge gw bm) w0 (cells s).length where
  enT := fun args w => by kernel_rfl
  enB := fun args w => by kernel_rfl
  enE := fun args w => by kernel_rfl
  mono := fun q q' t g h hi => ⟨by have := hi.1; omega, hok.mono _ _ _ _ h hi.2⟩
  take := fun cs W q t g i j hi hin hjn hp => by
    obtain ⟨m, a⟩ := t
    obtain ⟨nn, g⟩ := g
    obtain ⟨h1, h2⟩ := hi
    simp only at h1 h2
    have hp2 := hp.ungrp
    refine (aptake_sx s ht gc gl bm nn m i j hin hjn (by omega) hp2).mono ?_
    rintro e W' ⟨rfl, h3⟩
    exact ⟨(nn + 1, g), rfl, ⟨by show nn + 1 + q ≤ _; omega, hok.mono _ _ _ _ (by omega) h2⟩, Hp.grp [_, _, _, _, _, _] h3⟩
  back := fun cs W q t g i j hi hin hjn hp => by
    obtain ⟨m, a⟩ := t
    obtain ⟨nn, g⟩ := g
    obtain ⟨h1, h2⟩ := hi
    simp only at h1 h2
    have hp2 := hp.ungrp
    refine (apback_sx s ht gc gl bm nn m i j hin hjn (by omega) hp2).mono ?_
    rintro e W' ⟨rfl, h3⟩
    exact ⟨(nn + 1, g), rfl, ⟨by show nn + 1 + q ≤ _; omega, hok.mono _ _ _ _ (by omega) h2⟩, Hp.grp [_, _, _, _, _, _] h3⟩
  each := fun cs W q t g b gL cL FL hi hbl hbb hp => by
    obtain ⟨m, a⟩ := t
    obtain ⟨nn, g⟩ := g
    obtain ⟨h1, h2⟩ := hi
    simp only at h1 h2
    have hp2 := hp.ungrp
    refine (apeach_sx E hok s ht ge gw gL (cells s).length cL q a g b FL rfl hbl hbb h2 (hp2.take [3, 4, 5, 6, 0, 1, 2] 7 (by decide) (by simp))).mono ?_
    rintro e W' ⟨g', rfl, h4, h3⟩
    exact ⟨(nn, g'), rfl, ⟨by show nn + q ≤ _; omega, h4⟩, Hp.grp [_, _, _, _, _, _] (h3.take [4, 5, 6, 0, 1, 2, 3] 7 (by decide) (by simp))⟩
end Go.Proofs.YtokkiiepddhkiaaGreatDoor.Hd
