/- impl.layouts with its closures, for any function values, by hand. -/
import Derived.Test.YtokkiiepddhkiaaGreatDoorPLayM
import Derived.Test.YtokkiiepddhkiaaGreatDoorMSxM
namespace Go.Proofs.YtokkiiepddhkiaaGreatDoor.Hd
open Go.RowKit Go.Proofs.YtokkiiepddhkiaaGreatDoor.Pure Go.Proofs.YtokkiiepddhkiaaGreatDoorW.PrintWords Go.Proofs.YtokkiiepddhkiaaGreatDoorW.PrintLast Go.Proofs.YtokkiiepddhkiaaGreatDoorW.PrintMore
set_option linter.unusedVariables false
set_option linter.unusedSimpArgs false
/-- The function values that layouts calls: their numbers, what they have captured, the piece that tells the caller's state, what they do to it; inv: a word on the state, with a number that each call lowers. -/
structure Cb (τ γ : Type) where
  ft : Nat
  ct : Array Value
  fb : Nat
  cb : Array Value
  fe : Nat
  ce : Array Value
  X : τ → γ → Chunk
  S : Sea τ
  inv : Nat → τ → γ → Prop
structure CbOk {τ γ : Type} (C : Cb τ γ) (w0 : World) (n : Nat) : Prop where
  enT : ∀ args w, (callFunc C.ft args).run Tryz.prog w = .ok (.enter C.ft args) w
  enB : ∀ args w, (callFunc C.fb args).run Tryz.prog w = .ok (.enter C.fb args) w
  enE : ∀ args w, (callFunc C.fe args).run Tryz.prog w = .ok (.enter C.fe args) w
  mono : ∀ q q' t g, q' ≤ q → C.inv q t g → C.inv q' t g
  take : ∀ (cs : List Chunk) (W : World) (q : Nat) (t : τ) (g : γ) (i j : Nat), C.inv (q + 1) t g → i < n → j < n → Hp w0 (C.X t g :: cs) W → Calls Tryz.prog C.ft (#[.int .i64 (i : Int), .int .i64 (j : Int)] ++ C.ct) W fun e W' => ∃ g', e = .returned (.bool (C.S.take t i j).1) ∧ C.inv q (C.S.take t i j).2 g' ∧ Hp w0 (C.X (C.S.take t i j).2 g' :: cs) W'
  back : ∀ (cs : List Chunk) (W : World) (q : Nat) (t : τ) (g : γ) (i j : Nat), C.inv (q + 1) t g → i < n → j < n → Hp w0 (C.X t g :: cs) W → Calls Tryz.prog C.fb (#[.int .i64 (i : Int), .int .i64 (j : Int)] ++ C.cb) W fun e W' => ∃ g', e = .returned (.tuple #[]) ∧ C.inv q (C.S.back t i j) g' ∧ Hp w0 (C.X (C.S.back t i j) g' :: cs) W'
  each : ∀ (cs : List Chunk) (W : World) (q : Nat) (t : τ) (g : γ) (b : List Int) (gL cL : Nat) (FL : Nat → Prop), C.inv (q + 1) t g → b.length = n → (∀ x ∈ b, 0 ≤ x ∧ x < 256) → Hp w0 (C.X t g :: row (Kd.int .u8) 5 w0.heap.size (.slice (some ⟨gL, 0, none⟩) n cL) b FL :: cs) W → Calls Tryz.prog C.fe (#[.slice (some ⟨gL, 0, none⟩) n cL] ++ C.ce) W fun e W' => ∃ g', e = .returned (.bool (C.S.each t b).1) ∧ C.inv q (C.S.each t b).2 g' ∧ Hp w0 (C.X (C.S.each t b).2 g' :: row (Kd.int .u8) 5 w0.heap.size (.slice (some ⟨gL, 0, none⟩) n cL) b FL :: cs) W'
theorem callv_run {P : Program} {N : Nat} {s : List (Nat × Value)} {o : Oper} {W : World} {x : Operand} {xs : List Operand} {ts : Array TypeId} {f : FuncId} {caps args : Array Value} (ho : o.op = .call { callee := .value x, args := xs.toArray, argTypes := ts }) (hx : evl N s x = .func (.func f) #[] caps) (eg : ∀ args w, (callFunc f args).run P w = .ok (.enter f args) w) (ha : (xs.map (evl N s)).toArray ++ caps = args) : (execOp (evl N s) o).run P W = .ok (.enter f args) W := by
  subst ha
  unfold execOp
  simp [ho, resolve, hx, Deferred.ofValue, invoke, eg, Result.andThen]
def cst : Nat → Nat
  | 0 => 0
  | d + 1 => 2 * cst d + 5
section
variable {τ : Type} {S : Sea τ} {w : Int} {n d : Nat} {b : List Int} {a i : Nat} {t : τ}
theorem layG_end (h : ffN b a = b.length) : layG S w n (d + 1) b a t = S.each t b := by show (if _ then _ else _) = _; rw [if_pos h]
theorem layG_go (hf : ffN b a = i) (h : i ≠ b.length) : layG S w n (d + 1) b a t = if (eastG S w (layG S w n d) b i t).1 = true then southG S w n (layG S w n d) b i (eastG S w (layG S w n d) b i t).2 else (false, (eastG S w (layG S w n d) b i t).2) := by
  subst hf
  show (if _ then _ else _) = _
  rw [if_neg h]
theorem east_no {f : List Int → Nat → τ → Bool × τ} (h : ¬ ((i : Int) % w < w - 1)) : eastG S w f b i t = (true, t) := by unfold eastG; rw [if_neg (fun q => h q.1)]
theorem east_full {f : List Int → Nat → τ → Bool × τ} (h : ¬ rd b ((i : Int) + 1) = 0) : eastG S w f b i t = (true, t) := by unfold eastG; rw [if_neg (fun q => h q.2)]
theorem east_yes {f : List Int → Nat → τ → Bool × τ} (h : (i : Int) % w < w - 1) (h0 : rd b ((i : Int) + 1) = 0) : eastG S w f b i t = tryG S f b i (i + 1) 101 119 t := by unfold eastG; rw [if_pos ⟨h, h0⟩]
theorem south_no {f : List Int → Nat → τ → Bool × τ} (h : ¬ ((i : Int) + w < (n : Int))) : southG S w n f b i t = (true, t) := by unfold southG; rw [if_neg h]
theorem south_yes {f : List Int → Nat → τ → Bool × τ} (h : (i : Int) + w < (n : Int)) : southG S w n f b i t = tryG S f b i ((i : Int) + w).toNat 115 110 t := by unfold southG; rw [if_pos h]
theorem bytes_set {l l2 : Int} {j : Nat} (hb : ∀ x ∈ b, 0 ≤ x ∧ x < 256) (h1 : 0 ≤ l ∧ l < 256) (h2 : 0 ≤ l2 ∧ l2 < 256) : ∀ x ∈ (b.set i l).set j l2, 0 ≤ x ∧ x < 256 := by
  intro x hx
  rcases List.mem_or_eq_of_mem_set hx with hx | rfl
  · rcases List.mem_or_eq_of_mem_set hx with hx | rfl
    · exact hb x hx
    · exact h1
  · exact h2
end
def LayOk {τ γ : Type} (C : Cb τ γ) (w0 : World) (n d : Nat) : Prop := ∀ (W : World) (cs : List Chunk) (gL gc ge gt gl gb gw : Nat) (w h : Int) (b : List Int) (a : Nat) (cL : Nat) (FL : Nat → Prop) (t : τ) (g : γ) (q : Nat), 1 ≤ w → w ≤ 30 → w * h = (n : Int) → n ≤ 30 → b.length = n → a ≤ n → n < a + d → (∀ k : Nat, (a : Int) + w ≤ (k : Int) → k < b.length → rd b (k : Int) = 0) → (∀ x ∈ b, 0 ≤ x ∧ x < 256) → C.inv (cst d + q) t g → Hp w0 (blk gc #[.slice (some ⟨gL, 0, none⟩) n cL] 49 :: row (Kd.int .u8) 5 w0.heap.size (.slice (some ⟨gL, 0, none⟩) n cL) b FL :: blk ge #[.func (.func C.fe) #[] C.ce] 87 :: blk gt #[.func (.func C.ft) #[] C.ct] 84 :: blk gl #[.func (.func 81) #[] #[.pointer (some ⟨gc, 0, none⟩), .pointer (some ⟨ge, 0, none⟩), .pointer (some ⟨gt, 0, none⟩), .pointer (some ⟨gl, 0, none⟩), .pointer (some ⟨gb, 0, none⟩), .pointer (some ⟨gw, 0, none⟩)]] 102 :: blk gb #[.func (.func C.fb) #[] C.cb] 86 :: blk gw #[.int .i64 w] 3 :: C.X t g :: cs) W → Calls Tryz.prog 81 #[.int .i64 (a : Int), .pointer (some ⟨gc, 0, none⟩), .pointer (some ⟨ge, 0, none⟩), .pointer (some ⟨gt, 0, none⟩), .pointer (some ⟨gl, 0, none⟩), .pointer (some ⟨gb, 0, none⟩), .pointer (some ⟨gw, 0, none⟩)] W fun e W' => ∃ (FL' : Nat → Prop) (g' : γ), e = .returned (.bool (layG C.S w n d b a t).1) ∧ C.inv q (layG C.S w n d b a t).2 g' ∧ Hp w0 (blk gc #[.slice (some ⟨gL, 0, none⟩) n cL] 49 :: row (Kd.int .u8) 5 w0.heap.size (.slice (some ⟨gL, 0, none⟩) n cL) b FL' :: blk ge #[.func (.func C.fe) #[] C.ce] 87 :: blk gt #[.func (.func C.ft) #[] C.ct] 84 :: blk gl #[.func (.func 81) #[] #[.pointer (some ⟨gc, 0, none⟩), .pointer (some ⟨ge, 0, none⟩), .pointer (some ⟨gt, 0, none⟩), .pointer (some ⟨gl, 0, none⟩), .pointer (some ⟨gb, 0, none⟩), .pointer (some ⟨gw, 0, none⟩)]] 102 :: blk gb #[.func (.func C.fb) #[] C.cb] 86 :: blk gw #[.int .i64 w] 3 :: C.X ((layG C.S w n d b a t).2) g' :: cs) W'
def TryOk {τ γ : Type} (C : Cb τ γ) (w0 : World) (n d : Nat) : Prop := ∀ (W : World) (cs : List Chunk) (gL gc ge gt gl gb gw : Nat) (w h : Int) (b : List Int) (ga i j : Nat) (l l2 : Int) (cL : Nat) (FL : Nat → Prop) (t : τ) (g : γ) (q : Nat), 1 ≤ w → w ≤ 30 → w * h = (n : Int) → n ≤ 30 → b.length = n → i < n → rd b (i : Int) = 0 → j < n → j ≠ i → rd b (j : Int) = 0 → (j : Int) ≤ (i : Int) + w → n < i + 1 + d → (∀ k : Nat, (i : Int) + w ≤ (k : Int) → k < b.length → rd b (k : Int) = 0) → (∀ x ∈ b, 0 ≤ x ∧ x < 256) → (0 ≤ l ∧ l < 256) → (0 ≤ l2 ∧ l2 < 256) → C.inv (cst d + 2 + q) t g → Hp w0 (blk ga #[.int .i64 (i : Int)] 3 :: blk gc #[.slice (some ⟨gL, 0, none⟩) n cL] 49 :: row (Kd.int .u8) 5 w0.heap.size (.slice (some ⟨gL, 0, none⟩) n cL) b FL :: blk ge #[.func (.func C.fe) #[] C.ce] 87 :: blk gt #[.func (.func C.ft) #[] C.ct] 84 :: blk gl #[.func (.func 81) #[] #[.pointer (some ⟨gc, 0, none⟩), .pointer (some ⟨ge, 0, none⟩), .pointer (some ⟨gt, 0, none⟩), .pointer (some ⟨gl, 0, none⟩), .pointer (some ⟨gb, 0, none⟩), .pointer (some ⟨gw, 0, none⟩)]] 102 :: blk gb #[.func (.func C.fb) #[] C.cb] 86 :: blk gw #[.int .i64 w] 3 :: C.X t g :: cs) W → Calls Tryz.prog 82 #[.int .i64 (j : Int), .int .u8 l, .int .u8 l2, .pointer (some ⟨gt, 0, none⟩), .pointer (some ⟨ga, 0, none⟩), .pointer (some ⟨gc, 0, none⟩), .pointer (some ⟨gl, 0, none⟩), .pointer (some ⟨gb, 0, none⟩)] W fun e W' => ∃ (FL' : Nat → Prop) (g' : γ), e = .returned (.bool (tryG C.S (layG C.S w n d) b i j l l2 t).1) ∧ C.inv q (tryG C.S (layG C.S w n d) b i j l l2 t).2 g' ∧ Hp w0 (blk ga #[.int .i64 (i : Int)] 3 :: blk gc #[.slice (some ⟨gL, 0, none⟩) n cL] 49 :: row (Kd.int .u8) 5 w0.heap.size (.slice (some ⟨gL, 0, none⟩) n cL) b FL' :: blk ge #[.func (.func C.fe) #[] C.ce] 87 :: blk gt #[.func (.func C.ft) #[] C.ct] 84 :: blk gl #[.func (.func 81) #[] #[.pointer (some ⟨gc, 0, none⟩), .pointer (some ⟨ge, 0, none⟩), .pointer (some ⟨gt, 0, none⟩), .pointer (some ⟨gl, 0, none⟩), .pointer (some ⟨gb, 0, none⟩), .pointer (some ⟨gw, 0, none⟩)]] 102 :: blk gb #[.func (.func C.fb) #[] C.cb] 86 :: blk gw #[.int .i64 w] 3 :: C.X ((tryG C.S (layG C.S w n d) b i j l l2 t).2) g' :: cs) W'
set_option maxRecDepth 100000 in
set_option maxHeartbeats 40000000 in
theorem try_of {τ γ : Type} (C : Cb τ γ) (w0 : World) (n : Nat) (hok : CbOk C w0 n) (d : Nat) (hIH : LayOk C w0 n d) : TryOk C w0 n d := by
  intro W cs gL gc ge gt gl gb gw w h b ga i j l l2 cL FL t g q hw1 hw2 hwh hn hbn hi hbi hj hji hbj hjw hdn hinv hB hl hl2 hiv hp
  refine sx_enter (N := 41) (l := [.int .i64 (j : Int), .int .u8 l, .int .u8 l2, .pointer (some ⟨gt, 0, none⟩), .pointer (some ⟨ga, 0, none⟩), .pointer (some ⟨gc, 0, none⟩), .pointer (some ⟨gl, 0, none⟩), .pointer (some ⟨gb, 0, none⟩)]) Tryz.func82 rfl rfl rfl ?_
  refine wp_seq ?_
  refine sx_region ?_
  refine sx_rd 11 (.bool false) (by rfl) (by kernel_rfl) ?_
  refine sx_nil ?_
  refine ex_then_n ?_
  refine wp_seq ?_
  refine wp_seq ?_
  refine sx_region ?_
  refine sx_rd 13 (.func (.func C.ft) #[] C.ct) (by rfl) (ld1 (t := 84) (p := (.tmp 3)) (by rfl) (by rfl) (by kernel_rfl) (hp.cell 4 (by rfl) 0 _ (by rfl))) ?_
  refine sx_rd 14 (.int .i64 (i : Int)) (by rfl) (ld1 (t := 3) (p := (.tmp 4)) (by rfl) (by rfl) (by kernel_rfl) (hp.cell 0 (by rfl) 0 _ (by rfl))) ?_
  refine sx_rd 15 (.int .i64 (j : Int)) (by rfl) (by kernel_rfl) ?_
  refine sx_call 16 (by rfl) (callv_run (by rfl) (by rfl) hok.enT (by rfl)) (((hok.take (blk ga #[.int .i64 (i : Int)] 3 :: blk gc #[.slice (some ⟨gL, 0, none⟩) n cL] 49 :: row (Kd.int .u8) 5 w0.heap.size (.slice (some ⟨gL, 0, none⟩) n cL) b FL :: blk ge #[.func (.func C.fe) #[] C.ce] 87 :: blk gt #[.func (.func C.ft) #[] C.ct] 84 :: blk gl #[.func (.func 81) #[] #[.pointer (some ⟨gc, 0, none⟩), .pointer (some ⟨ge, 0, none⟩), .pointer (some ⟨gt, 0, none⟩), .pointer (some ⟨gl, 0, none⟩), .pointer (some ⟨gb, 0, none⟩), .pointer (some ⟨gw, 0, none⟩)]] 102 :: blk gb #[.func (.func C.fb) #[] C.cb] 86 :: blk gw #[.int .i64 w] 3 :: cs) _ (cst d + 1 + q) t g i j (by rw [show cst d + 1 + q + 1 = cst d + 2 + q by omega]; exact hiv) (by omega) (by omega) (hp.take [8, 0, 1, 2, 3, 4, 5, 6, 7] 9 (by decide) (by simp)))).mono ?_)
  rintro _ W_1 ⟨g1, rfl, hi1, hp⟩
  refine ⟨_, rfl, ?_⟩
  refine sx_rd 17 (.bool (!((C.S.take t i j).1))) (by rfl) (by kernel_rfl) ?_
  refine sx_nil ?_
  refine ex_then_n ?_
  refine sx_cond (!((C.S.take t i j).1)) (by rfl) (fun c_2 => ?_) (fun c_2 => ?_)
  ·
    refine wp_seq ?_
    refine sx_region ?_
    refine sx_rd 11 (.bool true) (by rfl) (by kernel_rfl) ?_
    refine sx_nil ?_
    refine ex_then_n ?_
    refine wp_ret ?_
    refine ex_then_r ?_
    refine sx_end (.bool true) (res1 11 (by rfl)) ?_
    have hT : (tryG C.S (layG C.S w n d) b i j l l2 t) = (true, (C.S.take t i j).2) := by unfold tryG; rw [if_neg (by rw [show (C.S.take t i j).1 = false from (not_eq c_2)]; simp)]
    rw [hT]
    exact ⟨_, _, rfl, hok.mono _ _ _ _ (by omega) hi1, (hp.take [1, 2, 3, 4, 5, 6, 7, 8, 0] 9 (by decide) (by simp))⟩
  ·
    refine wp_skip ?_
    refine ex_then_n ?_
    refine wp_seq ?_
    refine sx_drawT2 [3, 4, 5] (.rd 0 (.rd 1 (.rd 2 (.rd 6 (.alt 7 (.rd 8 (.alt 9 (.fin) .non)) .non))))) 10 (C := Hp w0 (C.X ((C.S.take t i j).2) g1 :: blk ga #[.int .i64 (i : Int)] 3 :: blk gc #[.slice (some ⟨gL, 0, none⟩) n cL] 49 :: blk ge #[.func (.func C.fe) #[] C.ce] 87 :: blk gt #[.func (.func C.ft) #[] C.ct] 84 :: blk gl #[.func (.func 81) #[] #[.pointer (some ⟨gc, 0, none⟩), .pointer (some ⟨ge, 0, none⟩), .pointer (some ⟨gt, 0, none⟩), .pointer (some ⟨gl, 0, none⟩), .pointer (some ⟨gb, 0, none⟩), .pointer (some ⟨gw, 0, none⟩)]] 102 :: blk gb #[.func (.func C.fb) #[] C.cb] 86 :: blk gw #[.int .i64 w] 3 :: cs)) (Hp w0 (C.X ((C.S.take t i j).2) g1 :: blk ga #[.int .i64 (i : Int)] 3 :: blk gc #[.slice (some ⟨gL, 0, none⟩) n cL] 49 :: row (Kd.int .u8) 5 w0.heap.size (.slice (some ⟨gL, 0, none⟩) n cL) b FL :: blk ge #[.func (.func C.fe) #[] C.ce] 87 :: blk gt #[.func (.func C.ft) #[] C.ct] 84 :: blk gl #[.func (.func 81) #[] #[.pointer (some ⟨gc, 0, none⟩), .pointer (some ⟨ge, 0, none⟩), .pointer (some ⟨gt, 0, none⟩), .pointer (some ⟨gl, 0, none⟩), .pointer (some ⟨gb, 0, none⟩), .pointer (some ⟨gw, 0, none⟩)]] 102 :: blk gb #[.func (.func C.fb) #[] C.cb] 86 :: blk gw #[.int .i64 w] 3 :: cs)) (fun W h => h.take [0, 1, 2, 4, 5, 6, 7, 8] 9 (by decide) (by simp)) (by kernel_rfl) (by kernel_rfl) (fun d _ _ _ _ h => by cases d <;> exact h) (fun W h => h.drew) hp ?_
    refine preI_read rfl ?_
    refine sxq_val 21 (.int .i64 (j : Int)) (by rfl) (fun W _ => (by kernel_rfl)) ?_
    refine sxq_nil ?_
    refine preI_read rfl ?_
    refine sxq_val 22 (.int .u8 l) (by rfl) (fun W _ => (by kernel_rfl)) ?_
    refine sxq_nil ?_
    refine preI_read rfl ?_
    refine sxq_val 23 (.int .u8 l2) (by rfl) (fun W _ => (by kernel_rfl)) ?_
    refine sxq_nil ?_
    refine preI_nil ?_
    intro W_3 hp
    refine treeI_rd rfl ?_
    refine sxq_val 18 (.slice (some ⟨gL, 0, none⟩) n cL) (by rfl) (fun W hp => (ld1 (t := 49) (p := (.tmp 5)) (by rfl) (by rfl) (by kernel_rfl) (hp.cell 2 (by rfl) 0 _ (by rfl)))) ?_
    refine sxq_nil ?_
    refine treeI_rd rfl ?_
    refine sxq_val 19 (.int .i64 (i : Int)) (by rfl) (fun W hp => (ld1 (t := 3) (p := (.tmp 4)) (by rfl) (by rfl) (by kernel_rfl) (hp.cell 1 (by rfl) 0 _ (by rfl)))) ?_
    refine sxq_nil ?_
    refine treeI_rd rfl ?_
    refine sxq_val 20 (.slice (some ⟨gL, 0, none⟩) n cL) (by rfl) (fun W hp => (ld1 (t := 49) (p := (.tmp 5)) (by rfl) (by rfl) (by kernel_rfl) (hp.cell 2 (by rfl) 0 _ (by rfl)))) ?_
    refine sxq_nil ?_
    refine treeI_rd rfl ?_
    refine sxq_val 24 (.pointer (some (adr (some ⟨gL, 0, none⟩) (i : Int) 1))) (by rfl) (fun W hp => (ix_some (t := 49) (sz := 1) (by rfl) (by rfl) (by rfl) Tryz.underlying49 (by kernel_rfl) (by omega) (by omega))) ?_
    refine sxq_nil ?_
    refine treeI_ev rfl ?_
    refine sx_rowstore (t := 5) (p := (.tmp 24)) (x := (.tmp 22)) (by rfl) (by rfl) 3 (Kd.int .u8) (by rfl) (i : Int) l [.int .u8 l] (by rfl) (by rfl) (by kernel_rfl) (by simp [Value.oneCell']) (by rfl) (by omega) (by omega) 0 (fun _ => rfl) hp ?_
    intro F_4 W_5 hp; simp only [List.set_cons_succ, List.set_cons_zero] at hp
    refine step_fin (hp.take [0, 1, 2, 4, 5, 6, 7, 8] 9 (by decide) (by simp)) ?_
    refine treeI_rd rfl ?_
    refine sxq_val 25 (.pointer (some (adr (some ⟨gL, 0, none⟩) (j : Int) 1))) (by rfl) (fun W hp => (ix_some (t := 49) (sz := 1) (by rfl) (by rfl) (by rfl) Tryz.underlying49 (by kernel_rfl) (by omega) (by omega))) ?_
    refine sxq_nil ?_
    refine treeI_ev rfl ?_
    refine sx_rowstore (t := 5) (p := (.tmp 25)) (x := (.tmp 23)) (by rfl) (by rfl) 3 (Kd.int .u8) (by rfl) (j : Int) l2 [.int .u8 l2] (by rfl) (by rfl) (by kernel_rfl) (by simp [Value.oneCell']) (by rfl) (by omega) (by omega) 0 (fun _ => rfl) hp ?_
    intro F_6 W_7 hp; simp only [List.set_cons_succ, List.set_cons_zero] at hp
    refine step_fin (hp.take [0, 1, 2, 4, 5, 6, 7, 8] 9 (by decide) (by simp)) ?_
    refine treeI_fin ?_
    refine sx_nil ?_
    refine ex_then_n ?_
    refine wp_seq ?_
    refine sx_region ?_
    refine sx_rd 26 (.func (.func 81) #[] #[.pointer (some ⟨gc, 0, none⟩), .pointer (some ⟨ge, 0, none⟩), .pointer (some ⟨gt, 0, none⟩), .pointer (some ⟨gl, 0, none⟩), .pointer (some ⟨gb, 0, none⟩), .pointer (some ⟨gw, 0, none⟩)]) (by rfl) (ld1 (t := 102) (p := (.tmp 6)) (by rfl) (by rfl) (by kernel_rfl) (hp.cell 6 (by rfl) 0 _ (by rfl))) ?_
    refine sx_rd 27 (.int .i64 (i : Int)) (by rfl) (ld1 (t := 3) (p := (.tmp 4)) (by rfl) (by rfl) (by kernel_rfl) (hp.cell 1 (by rfl) 0 _ (by rfl))) ?_
    refine sx_rd 28 (.int .i64 ((i : Int) + 1)) (by rfl) (wr_ok (by omega) (by kernel_rfl)) ?_
    have hB2 := bytes_set (i := ((i : Int)).toNat) (j := ((j : Int)).toNat) hB hl hl2
    have hz2 := til_invP (l := l) (l2 := l2) hw1 (Nat.le_refl i) hjw hinv
    refine sx_call 29 (by rfl) (by kernel_rfl) (((hIH _ (blk ga #[.int .i64 (i : Int)] 3 :: cs) gL gc ge gt gl gb gw w h ((b.set ((i : Int)).toNat l).set ((j : Int)).toNat l2) (i + 1) cL F_6 (C.S.take t i j).2 g1 (1 + q) hw1 hw2 hwh hn (by simp; omega) (by omega) (by omega) (by intro k h1 h2; simp only [List.length_set] at h2; simpa only [Int.toNat_natCast] using hz2 k h1 h2) hB2 (by rw [show cst d + (1 + q) = cst d + 1 + q by omega]; exact hi1) (hp.take [2, 3, 4, 5, 6, 7, 8, 0, 1] 9 (by decide) (by simp)))).mono ?_)
    rintro _ W_8 ⟨FL2, g2, rfl, hi2, hp⟩
    refine ⟨_, rfl, ?_⟩
    refine sx_rd 12 (.bool ((layG C.S w n d ((b.set ((i : Int)).toNat l).set ((j : Int)).toNat l2) (i + 1) (C.S.take t i j).2).1)) (by rfl) (by kernel_rfl) ?_
    refine sx_nil ?_
    refine ex_then_n ?_
    refine wp_seq ?_
    refine sx_drawT2 [3] (.rd 0 (.rd 1 (.rd 2 (.rd 4 (.alt 5 (.rd 6 (.alt 7 (.fin) .non)) .non))))) 8 (C := Hp w0 (blk gc #[.slice (some ⟨gL, 0, none⟩) n cL] 49 :: blk ge #[.func (.func C.fe) #[] C.ce] 87 :: blk gt #[.func (.func C.ft) #[] C.ct] 84 :: blk gl #[.func (.func 81) #[] #[.pointer (some ⟨gc, 0, none⟩), .pointer (some ⟨ge, 0, none⟩), .pointer (some ⟨gt, 0, none⟩), .pointer (some ⟨gl, 0, none⟩), .pointer (some ⟨gb, 0, none⟩), .pointer (some ⟨gw, 0, none⟩)]] 102 :: blk gb #[.func (.func C.fb) #[] C.cb] 86 :: blk gw #[.int .i64 w] 3 :: C.X ((layG C.S w n d ((b.set ((i : Int)).toNat l).set ((j : Int)).toNat l2) (i + 1) (C.S.take t i j).2).2) g2 :: blk ga #[.int .i64 (i : Int)] 3 :: cs)) (Hp w0 (blk gc #[.slice (some ⟨gL, 0, none⟩) n cL] 49 :: row (Kd.int .u8) 5 w0.heap.size (.slice (some ⟨gL, 0, none⟩) n cL) ((b.set ((i : Int)).toNat l).set ((j : Int)).toNat l2) FL2 :: blk ge #[.func (.func C.fe) #[] C.ce] 87 :: blk gt #[.func (.func C.ft) #[] C.ct] 84 :: blk gl #[.func (.func 81) #[] #[.pointer (some ⟨gc, 0, none⟩), .pointer (some ⟨ge, 0, none⟩), .pointer (some ⟨gt, 0, none⟩), .pointer (some ⟨gl, 0, none⟩), .pointer (some ⟨gb, 0, none⟩), .pointer (some ⟨gw, 0, none⟩)]] 102 :: blk gb #[.func (.func C.fb) #[] C.cb] 86 :: blk gw #[.int .i64 w] 3 :: C.X ((layG C.S w n d ((b.set ((i : Int)).toNat l).set ((j : Int)).toNat l2) (i + 1) (C.S.take t i j).2).2) g2 :: blk ga #[.int .i64 (i : Int)] 3 :: cs)) (fun W h => h.take [0, 2, 3, 4, 5, 6, 7, 8] 9 (by decide) (by simp)) (by kernel_rfl) (by kernel_rfl) (fun d _ _ _ _ h => by cases d <;> exact h) (fun W h => h.drew) hp ?_
    refine preI_read rfl ?_
    refine sxq_val 33 (.int .i64 (j : Int)) (by rfl) (fun W _ => (by kernel_rfl)) ?_
    refine sxq_nil ?_
    refine preI_nil ?_
    intro W_9 hp
    refine treeI_rd rfl ?_
    refine sxq_val 30 (.slice (some ⟨gL, 0, none⟩) n cL) (by rfl) (fun W hp => (ld1 (t := 49) (p := (.tmp 5)) (by rfl) (by rfl) (by kernel_rfl) (hp.cell 0 (by rfl) 0 _ (by rfl)))) ?_
    refine sxq_nil ?_
    refine treeI_rd rfl ?_
    refine sxq_val 31 (.int .i64 (i : Int)) (by rfl) (fun W hp => (ld1 (t := 3) (p := (.tmp 4)) (by rfl) (by rfl) (by kernel_rfl) (hp.cell 7 (by rfl) 0 _ (by rfl)))) ?_
    refine sxq_nil ?_
    refine treeI_rd rfl ?_
    refine sxq_val 32 (.slice (some ⟨gL, 0, none⟩) n cL) (by rfl) (fun W hp => (ld1 (t := 49) (p := (.tmp 5)) (by rfl) (by rfl) (by kernel_rfl) (hp.cell 0 (by rfl) 0 _ (by rfl)))) ?_
    refine sxq_nil ?_
    refine treeI_rd rfl ?_
    refine sxq_val 34 (.pointer (some (adr (some ⟨gL, 0, none⟩) (i : Int) 1))) (by rfl) (fun W hp => (ix_some (t := 49) (sz := 1) (by rfl) (by rfl) (by rfl) Tryz.underlying49 (by kernel_rfl) (by omega) (by omega))) ?_
    refine sxq_nil ?_
    refine treeI_ev rfl ?_
    refine sx_rowstore (t := 5) (p := (.tmp 34)) (x := (.const (Go.Value.int Go.IntKind.u8 0))) (by rfl) (by rfl) 1 (Kd.int .u8) (by rfl) (i : Int) 0 [.int .u8 0] (by rfl) (by rfl) (by kernel_rfl) (by simp [Value.oneCell']) (by rfl) (by omega) (by omega) 0 (fun _ => rfl) hp ?_
    intro F_10 W_11 hp; simp only [List.set_cons_succ, List.set_cons_zero] at hp
    refine step_fin (hp.take [0, 2, 3, 4, 5, 6, 7, 8] 9 (by decide) (by simp)) ?_
    refine treeI_rd rfl ?_
    refine sxq_val 35 (.pointer (some (adr (some ⟨gL, 0, none⟩) (j : Int) 1))) (by rfl) (fun W hp => (ix_some (t := 49) (sz := 1) (by rfl) (by rfl) (by rfl) Tryz.underlying49 (by kernel_rfl) (by omega) (by omega))) ?_
    refine sxq_nil ?_
    refine treeI_ev rfl ?_
    refine sx_rowstore (t := 5) (p := (.tmp 35)) (x := (.const (Go.Value.int Go.IntKind.u8 0))) (by rfl) (by rfl) 1 (Kd.int .u8) (by rfl) (j : Int) 0 [.int .u8 0] (by rfl) (by rfl) (by kernel_rfl) (by simp [Value.oneCell']) (by rfl) (by omega) (by omega) 0 (fun _ => rfl) hp ?_
    intro F_12 W_13 hp; simp only [List.set_cons_succ, List.set_cons_zero] at hp
    refine step_fin (hp.take [0, 2, 3, 4, 5, 6, 7, 8] 9 (by decide) (by simp)) ?_
    refine treeI_fin ?_
    refine sx_nil ?_
    refine ex_then_n ?_
    refine wp_seq ?_
    refine sx_region ?_
    refine sx_rd 36 (.func (.func C.fb) #[] C.cb) (by rfl) (ld1 (t := 86) (p := (.tmp 7)) (by rfl) (by rfl) (by kernel_rfl) (hp.cell 5 (by rfl) 0 _ (by rfl))) ?_
    refine sx_rd 37 (.int .i64 (i : Int)) (by rfl) (ld1 (t := 3) (p := (.tmp 4)) (by rfl) (by rfl) (by kernel_rfl) (hp.cell 8 (by rfl) 0 _ (by rfl))) ?_
    refine sx_rd 38 (.int .i64 (j : Int)) (by rfl) (by kernel_rfl) ?_
    refine sx_call 39 (by rfl) (callv_run (by rfl) (by rfl) hok.enB (by rfl)) (((hok.back (blk gc #[.slice (some ⟨gL, 0, none⟩) n cL] 49 :: row (Kd.int .u8) 5 w0.heap.size (.slice (some ⟨gL, 0, none⟩) n cL) ((((b.set ((i : Int)).toNat l).set ((j : Int)).toNat l2).set ((i : Int)).toNat 0).set ((j : Int)).toNat 0) F_12 :: blk ge #[.func (.func C.fe) #[] C.ce] 87 :: blk gt #[.func (.func C.ft) #[] C.ct] 84 :: blk gl #[.func (.func 81) #[] #[.pointer (some ⟨gc, 0, none⟩), .pointer (some ⟨ge, 0, none⟩), .pointer (some ⟨gt, 0, none⟩), .pointer (some ⟨gl, 0, none⟩), .pointer (some ⟨gb, 0, none⟩), .pointer (some ⟨gw, 0, none⟩)]] 102 :: blk gb #[.func (.func C.fb) #[] C.cb] 86 :: blk gw #[.int .i64 w] 3 :: blk ga #[.int .i64 (i : Int)] 3 :: cs) _ q ((layG C.S w n d ((b.set ((i : Int)).toNat l).set ((j : Int)).toNat l2) (i + 1) (C.S.take t i j).2).2) g2 i j (by rw [show q + 1 = 1 + q by omega]; exact hi2) (by omega) (by omega) (hp.take [7, 0, 1, 2, 3, 4, 5, 6, 8] 9 (by decide) (by simp)))).mono ?_)
    rintro _ W_14 ⟨g3, rfl, hi3, hp⟩
    refine ⟨_, rfl, ?_⟩
    refine sx_nil ?_
    refine ex_then_n ?_
    refine wp_seq ?_
    refine sx_region ?_
    refine sx_rd 40 (.bool ((layG C.S w n d ((b.set ((i : Int)).toNat l).set ((j : Int)).toNat l2) (i + 1) (C.S.take t i j).2).1)) (by rfl) (by kernel_rfl) ?_
    refine sx_rd 11 (.bool ((layG C.S w n d ((b.set ((i : Int)).toNat l).set ((j : Int)).toNat l2) (i + 1) (C.S.take t i j).2).1)) (by rfl) (by kernel_rfl) ?_
    refine sx_nil ?_
    refine ex_then_n ?_
    refine wp_ret ?_
    refine sx_end (.bool ((layG C.S w n d ((b.set ((i : Int)).toNat l).set ((j : Int)).toNat l2) (i + 1) (C.S.take t i j).2).1)) (res1 11 (by rfl)) ?_
    have hbk : ((((b.set ((i : Int)).toNat l).set ((j : Int)).toNat l2).set ((i : Int)).toNat 0).set ((j : Int)).toNat 0) = b := set_back b ((i : Int)).toNat ((j : Int)).toNat l l2 (by omega) (by omega) (by rw [Int.toNat_natCast]; exact hbi) (by rw [Int.toNat_natCast]; exact hbj)
    have hq := (hp.take [8, 1, 2, 3, 4, 5, 6, 7, 0] 9 (by decide) (by simp))
    rw [hbk] at hq
    simp only [Int.toNat_natCast] at hq hi3 ⊢
    have hT : (tryG C.S (layG C.S w n d) b i j l l2 t) = ((layG C.S w n d ((b.set i l).set j l2) (i + 1) (C.S.take t i j).2).1, C.S.back (layG C.S w n d ((b.set i l).set j l2) (i + 1) (C.S.take t i j).2).2 i j) := by unfold tryG; rw [if_pos (show (C.S.take t i j).1 = true from (not_eq c_2))]
    rw [hT]
    exact ⟨_, _, rfl, hi3, hq⟩
set_option maxRecDepth 100000 in
set_option maxHeartbeats 40000000 in
theorem lay_of {τ γ : Type} (C : Cb τ γ) (w0 : World) (n : Nat) (hok : CbOk C w0 n) (d : Nat) (hT : TryOk C w0 n d) : LayOk C w0 n (d + 1) := by
  intro W cs gL gc ge gt gl gb gw w h b a cL FL t g q hw1 hw2 hwh hn hbn han hdn hinv hB hiv hp
  refine sx_enter (N := 66) (l := [.int .i64 (a : Int), .pointer (some ⟨gc, 0, none⟩), .pointer (some ⟨ge, 0, none⟩), .pointer (some ⟨gt, 0, none⟩), .pointer (some ⟨gl, 0, none⟩), .pointer (some ⟨gb, 0, none⟩), .pointer (some ⟨gw, 0, none⟩)]) Tryz.func81 rfl rfl rfl ?_
  refine wp_seq ?_
  refine sx_region ?_
  refine sx_box 7 hp #[.int .i64 (a : Int)] 3 (by rfl) (fun W => by kernel_rfl) ?_
  intro g_1 W_2 hp
  refine sx_rd 8 (.bool false) (by rfl) (by kernel_rfl) ?_
  refine sx_nil ?_
  refine ex_then_n ?_
  refine wp_seq ?_
  refine wp_block ?_
  refine wp_loop_ghost (fun n_ a_ W => ∃ (r_ : List (Nat × Value)) (i : Nat) , n_ = n - i ∧ a_ = fr 66 ([(1, .pointer (some ⟨gc, 0, none⟩)), (2, .pointer (some ⟨ge, 0, none⟩)), (3, .pointer (some ⟨gt, 0, none⟩)), (4, .pointer (some ⟨gl, 0, none⟩)), (5, .pointer (some ⟨gb, 0, none⟩)), (6, .pointer (some ⟨gw, 0, none⟩)), (7, .pointer (some ⟨g_1, 0, none⟩))] ++ r_) ∧ Hp w0 (blk g_1 #[.int .i64 (i : Int)] 3 :: blk gc #[.slice (some ⟨gL, 0, none⟩) n cL] 49 :: row (Kd.int .u8) 5 w0.heap.size (.slice (some ⟨gL, 0, none⟩) n cL) b FL :: blk ge #[.func (.func C.fe) #[] C.ce] 87 :: blk gt #[.func (.func C.ft) #[] C.ct] 84 :: blk gl #[.func (.func 81) #[] #[.pointer (some ⟨gc, 0, none⟩), .pointer (some ⟨ge, 0, none⟩), .pointer (some ⟨gt, 0, none⟩), .pointer (some ⟨gl, 0, none⟩), .pointer (some ⟨gb, 0, none⟩), .pointer (some ⟨gw, 0, none⟩)]] 102 :: blk gb #[.func (.func C.fb) #[] C.cb] 86 :: blk gw #[.int .i64 w] 3 :: C.X t g :: cs) W ∧ (i ≤ n) ∧ (a ≤ i) ∧ (∀ j, a ≤ j → j < i → rd b (j : Int) ≠ 0)) _ ⟨_, a, rfl, fr_front [(1, .pointer (some ⟨gc, 0, none⟩)), (2, .pointer (some ⟨ge, 0, none⟩)), (3, .pointer (some ⟨gt, 0, none⟩)), (4, .pointer (some ⟨gl, 0, none⟩)), (5, .pointer (some ⟨gb, 0, none⟩)), (6, .pointer (some ⟨gw, 0, none⟩)), (7, .pointer (some ⟨g_1, 0, none⟩))] ⟨rfl, rfl, rfl, rfl, rfl, rfl, rfl, trivial⟩, (hp.take [0, 1, 2, 3, 4, 5, 6, 7, 8] 9 (by decide) (by simp)), (by omega), (Nat.le_refl _), (fun j h1 h2 => absurd h1 (by omega))⟩ ?_
  rintro _ _ W_3 ⟨r_, i, rfl, rfl, hp, hi, hai, hsk⟩
  refine wp_seq ?_
  refine wp_seq ?_
  rcases Bool.eq_false_or_eq_true (decide ((i : Int) < (n : Int))) with c_4 | c_4
  ·
    have c_4p := of_decide_eq_true c_4
    refine sx_region ?_
    refine sx_rd 11 (.int .i64 (i : Int)) (by rfl) (ld1 (t := 3) (p := (.tmp 7)) (by rfl) (by rfl) (by kernel_rfl) (hp.cell 0 (by rfl) 0 _ (by rfl))) ?_
    refine sx_rd 12 (.slice (some ⟨gL, 0, none⟩) n cL) (by rfl) (ld1 (t := 49) (p := (.tmp 1)) (by rfl) (by rfl) (by kernel_rfl) (hp.cell 1 (by rfl) 0 _ (by rfl))) ?_
    refine sx_rd 13 (.int .i64 (n : Int)) (by rfl) (by kernel_rfl) ?_
    refine sx_rd 14 (.bool true) (by rfl) (bv c_4 (by kernel_rfl)) ?_
    refine sx_rd 15 (.bool true) (by rfl) (by kernel_rfl) ?_
    refine sx_want (by rfl) ?_
    refine sx_rd 16 (.slice (some ⟨gL, 0, none⟩) n cL) (by rfl) (ld1 (t := 49) (p := (.tmp 1)) (by rfl) (by rfl) (by kernel_rfl) (hp.cell 1 (by rfl) 0 _ (by rfl))) ?_
    refine sx_want (by rfl) ?_
    refine sx_rd 17 (.int .i64 (i : Int)) (by rfl) (ld1 (t := 3) (p := (.tmp 7)) (by rfl) (by rfl) (by kernel_rfl) (hp.cell 0 (by rfl) 0 _ (by rfl))) ?_
    refine sx_want (by rfl) ?_
    refine sx_rd 18 (.pointer (some (adr (some ⟨gL, 0, none⟩) (i : Int) 1))) (by rfl) (ix_run (d := (Kd.int .u8)) (row_Cn (hp.at_ 2 _ (by rfl))) (t := 49) (by rfl) (by rfl) (by rfl) Tryz.underlying49 (by kernel_rfl) (by omega) (by omega)) ?_
    refine sx_want (by rfl) ?_
    refine sx_rd 19 (.int .u8 (rd b (i : Int))) (by rfl) (ld1 (t := 5) (p := (.tmp 18)) (by rfl) (by rfl) (by kernel_rfl) (el_cell (d := (Kd.int .u8)) (row_C (hp.at_ 2 _ (by rfl))) 0 (i : Int) (by omega) (by omega) (cells := [.int .u8 (rd b (i : Int))]) (fun cs h => h) 0 _ (by rfl))) ?_
    refine sx_want (by rfl) ?_
    refine sx_rd 20 (.bool ((rd b (i : Int)) != 0)) (by rfl) (by kernel_rfl) ?_
    refine sx_rd 21 (.bool ((rd b (i : Int)) != 0)) (by rfl) (by kernel_rfl) ?_
    refine sx_nil ?_
    refine ex_then_n ?_
    refine sx_cond ((rd b (i : Int)) != 0) (by rfl) (fun c_5 => ?_) (fun c_5 => ?_)
    ·
      have c_5p := ne_of_bne_ c_5
      refine wp_skip ?_
      refine ex_then_n ?_
      refine wp_block ?_
      refine sx_region ?_
      refine sx_rd 22 (.int .i64 (i : Int)) (by rfl) (ld1 (t := 3) (p := (.tmp 7)) (by rfl) (by rfl) (by kernel_rfl) (hp.cell 0 (by rfl) 0 _ (by rfl))) ?_
      refine sx_rd 23 (.int .i64 ((i : Int) + 1)) (by rfl) (wr_ok (by omega) (by kernel_rfl)) ?_
      refine sx_store (t := 3) (p := (.tmp 7)) (x := (.tmp 23)) (by rfl) (by rfl) 0 (by rfl) 0 [.int .i64 ((i : Int) + 1)] (by rfl) (by rfl) (by kernel_rfl) (by simp [Value.oneCell']) (by show 1 ≤ 1; omega) #[.int .i64 ((i : Int) + 1)] (by rfl) hp ?_
      intro W_6 hp; simp only [List.set_cons_succ, List.set_cons_zero] at hp
      refine sx_nil ?_
      refine ex_blk_n ?_
      refine ex_then_n ?_
      have hq_7 : ((i : Int) + 1) = ((i + 1) : Int) := rfl
      rw [hq_7] at hp
      exact ⟨_, (by omega), _, (i + 1), rfl, fr_front [(1, .pointer (some ⟨gc, 0, none⟩)), (2, .pointer (some ⟨ge, 0, none⟩)), (3, .pointer (some ⟨gt, 0, none⟩)), (4, .pointer (some ⟨gl, 0, none⟩)), (5, .pointer (some ⟨gb, 0, none⟩)), (6, .pointer (some ⟨gw, 0, none⟩)), (7, .pointer (some ⟨g_1, 0, none⟩))] ⟨rfl, rfl, rfl, rfl, rfl, rfl, rfl, trivial⟩, (hp.take [0, 1, 2, 3, 4, 5, 6, 7, 8] 9 (by decide) (by simp)), (by omega), (by omega), (fun j h1 h2 => by rcases Nat.lt_succ_iff_lt_or_eq.1 h2 with q | rfl; exact hsk j h1 q; have q := c_5; simpa using q)⟩
    ·
      have c_5p := eq_of_bne_ c_5
      refine wp_exit ?_
      refine ex_then_e (ex_then_e (ex_blk_here ?_))
      refine ex_then_n ?_
      refine wp_seq ?_
      refine wp_seq ?_
      refine sx_region ?_
      refine sx_rd 24 (.int .i64 (i : Int)) (by rfl) (ld1 (t := 3) (p := (.tmp 7)) (by rfl) (by rfl) (by kernel_rfl) (hp.cell 0 (by rfl) 0 _ (by rfl))) ?_
      refine sx_rd 25 (.slice (some ⟨gL, 0, none⟩) n cL) (by rfl) (ld1 (t := 49) (p := (.tmp 1)) (by rfl) (by rfl) (by kernel_rfl) (hp.cell 1 (by rfl) 0 _ (by rfl))) ?_
      refine sx_rd 26 (.int .i64 (n : Int)) (by rfl) (by kernel_rfl) ?_
      refine sx_rd 27 (.bool ((i : Int) == (n : Int))) (by rfl) (by kernel_rfl) ?_
      refine sx_nil ?_
      refine ex_then_n ?_
      refine sx_cond ((i : Int) == (n : Int)) (by rfl) (fun c_8 => ?_) (fun c_8 => ?_)
      ·
        have c_8p := eq_of_beq_ c_8
        refine wp_seq ?_
        refine sx_region ?_
        refine sx_rd 28 (.func (.func C.fe) #[] C.ce) (by rfl) (ld1 (t := 87) (p := (.tmp 2)) (by rfl) (by rfl) (by kernel_rfl) (hp.cell 3 (by rfl) 0 _ (by rfl))) ?_
        refine sx_rd 29 (.slice (some ⟨gL, 0, none⟩) n cL) (by rfl) (ld1 (t := 49) (p := (.tmp 1)) (by rfl) (by rfl) (by kernel_rfl) (hp.cell 1 (by rfl) 0 _ (by rfl))) ?_
        refine sx_call 30 (by rfl) (callv_run (by rfl) (by rfl) hok.enE (by rfl)) (((hok.each (blk g_1 #[.int .i64 (i : Int)] 3 :: blk gc #[.slice (some ⟨gL, 0, none⟩) n cL] 49 :: blk ge #[.func (.func C.fe) #[] C.ce] 87 :: blk gt #[.func (.func C.ft) #[] C.ct] 84 :: blk gl #[.func (.func 81) #[] #[.pointer (some ⟨gc, 0, none⟩), .pointer (some ⟨ge, 0, none⟩), .pointer (some ⟨gt, 0, none⟩), .pointer (some ⟨gl, 0, none⟩), .pointer (some ⟨gb, 0, none⟩), .pointer (some ⟨gw, 0, none⟩)]] 102 :: blk gb #[.func (.func C.fb) #[] C.cb] 86 :: blk gw #[.int .i64 w] 3 :: cs) _ q t g b gL cL FL (hok.mono _ _ _ _ (by first | omega | (simp only [cst]; omega)) hiv) hbn hB (hp.take [8, 2, 0, 1, 3, 4, 5, 6, 7] 9 (by decide) (by simp)))).mono ?_)
        rintro _ W_9 ⟨g9, rfl, hi9, hp⟩
        refine ⟨_, rfl, ?_⟩
        refine sx_rd 8 (.bool ((C.S.each t b).1)) (by rfl) (by kernel_rfl) ?_
        refine sx_nil ?_
        refine ex_then_n ?_
        refine wp_ret ?_
        refine ex_then_r ?_
        refine sx_end (.bool ((C.S.each t b).1)) (res1 8 (by rfl)) ?_
        obtain rfl : i = n := by omega
        have hff : ffN b a = b.length := ffN_end (by omega) (fun j h1 h2 => hsk j h1 (by omega))
        rw [layG_end hff]
        exact ⟨_, _, rfl, hi9, (hp.take [3, 1, 4, 5, 6, 7, 8, 0] 9 (by decide) (by simp))⟩
      ·
        have c_8p := ne_of_beq_ c_8
        have hlt : i < n := by omega
        have hfree : rd b (i : Int) = 0 := by simpa using c_5
        have hinv2 : ∀ k : Nat, (i : Int) + w ≤ (k : Int) → k < b.length → rd b (k : Int) = 0 := fun k h1 h2 => hinv k (by omega) h2
        refine wp_skip ?_
        refine ex_then_n ?_
        refine wp_seq ?_
        refine sx_region ?_
        refine sx_rd 31 (.func (.func 82) #[] #[.pointer (some ⟨gt, 0, none⟩), .pointer (some ⟨g_1, 0, none⟩), .pointer (some ⟨gc, 0, none⟩), .pointer (some ⟨gl, 0, none⟩), .pointer (some ⟨gb, 0, none⟩)]) (by rfl) (by kernel_rfl) ?_
        refine sx_rd 9 (.func (.func 82) #[] #[.pointer (some ⟨gt, 0, none⟩), .pointer (some ⟨g_1, 0, none⟩), .pointer (some ⟨gc, 0, none⟩), .pointer (some ⟨gl, 0, none⟩), .pointer (some ⟨gb, 0, none⟩)]) (by rfl) (by kernel_rfl) ?_
        refine sx_nil ?_
        refine ex_then_n ?_
        refine wp_seq ?_
        refine wp_seq ?_
        rcases Bool.eq_false_or_eq_true (decide (((i : Int) % w) < (w - 1))) with c_10 | c_10
        ·
          have c_10p := of_decide_eq_true c_10
          have hE1 : (i : Int) + 1 < n := by have q := nearE_bd (i := (i : Int)) hw1 hwh (by omega) (by omega); unfold nearE at q; rw [if_pos (by omega)] at q; omega
          rcases Bool.eq_false_or_eq_true ((rd b ((i : Int) + 1)) == 0) with c_11 | c_11
          ·
            have c_11p := eq_of_beq_ c_11
            refine sx_drawT [] (.rd 0 (.rd 1 (.rd 2 (.rd 3 (.rd 4 (.rd 5 (.rd 6 (.rd 7 (.rd 8 (.rd 9 (.rd 10 (.rd 11 (.rd 12 (.rd 13 (.rd 14 (.rd 15 (.rd 16 (.rd 17 (.fin))))))))))))))))))) 18 (C := Hp w0 (blk g_1 #[.int .i64 (i : Int)] 3 :: blk gc #[.slice (some ⟨gL, 0, none⟩) n cL] 49 :: row (Kd.int .u8) 5 w0.heap.size (.slice (some ⟨gL, 0, none⟩) n cL) b FL :: blk ge #[.func (.func C.fe) #[] C.ce] 87 :: blk gt #[.func (.func C.ft) #[] C.ct] 84 :: blk gl #[.func (.func 81) #[] #[.pointer (some ⟨gc, 0, none⟩), .pointer (some ⟨ge, 0, none⟩), .pointer (some ⟨gt, 0, none⟩), .pointer (some ⟨gl, 0, none⟩), .pointer (some ⟨gb, 0, none⟩), .pointer (some ⟨gw, 0, none⟩)]] 102 :: blk gb #[.func (.func C.fb) #[] C.cb] 86 :: blk gw #[.int .i64 w] 3 :: C.X t g :: cs)) (by kernel_rfl) (by kernel_rfl) (fun d _ _ _ _ h => by cases d <;> exact h) (fun W h => h.drew) hp ?_
            refine preI_nil ?_
            intro W_12 hp
            refine treeI_rd rfl ?_
            refine sxq_val 32 (.int .i64 (i : Int)) (by rfl) (fun W hp => (ld1 (t := 3) (p := (.tmp 7)) (by rfl) (by rfl) (by kernel_rfl) (hp.cell 0 (by rfl) 0 _ (by rfl)))) ?_
            refine sxq_nil ?_
            refine treeI_rd rfl ?_
            refine sxq_val 33 (.int .i64 w) (by rfl) (fun W hp => (ld1 (t := 3) (p := (.tmp 6)) (by rfl) (by rfl) (by kernel_rfl) (hp.cell 7 (by rfl) 0 _ (by rfl)))) ?_
            refine sxq_nil ?_
            refine treeI_rd rfl ?_
            refine sxq_val 34 (.int .i64 ((i : Int) % w)) (by rfl) (fun W hp => (rem_run (by rfl) (by rfl) (by rfl) (by omega) (by omega))) ?_
            refine sxq_nil ?_
            refine treeI_rd rfl ?_
            refine sxq_val 35 (.int .i64 w) (by rfl) (fun W hp => (ld1 (t := 3) (p := (.tmp 6)) (by rfl) (by rfl) (by kernel_rfl) (hp.cell 7 (by rfl) 0 _ (by rfl)))) ?_
            refine sxq_nil ?_
            refine treeI_rd rfl ?_
            refine sxq_val 36 (.int .i64 (w - 1)) (by rfl) (fun W hp => (wr_ok (by omega) (by kernel_rfl))) ?_
            refine sxq_nil ?_
            refine treeI_rd rfl ?_
            refine sxq_val 37 (.bool true) (by rfl) (fun W hp => (bv c_10 (by kernel_rfl))) ?_
            refine sxq_nil ?_
            refine treeI_rd rfl ?_
            refine sxq_val 38 (.bool true) (by rfl) (fun W hp => (by kernel_rfl)) ?_
            refine sxq_nil ?_
            refine treeI_rd rfl ?_
            refine sxq_want (by rfl) ?_
            refine sxq_val 39 (.slice (some ⟨gL, 0, none⟩) n cL) (by rfl) (fun W hp => (ld1 (t := 49) (p := (.tmp 1)) (by rfl) (by rfl) (by kernel_rfl) (hp.cell 1 (by rfl) 0 _ (by rfl)))) ?_
            refine sxq_nil ?_
            refine treeI_rd rfl ?_
            refine sxq_want (by rfl) ?_
            refine sxq_val 40 (.int .i64 (i : Int)) (by rfl) (fun W hp => (ld1 (t := 3) (p := (.tmp 7)) (by rfl) (by rfl) (by kernel_rfl) (hp.cell 0 (by rfl) 0 _ (by rfl)))) ?_
            refine sxq_nil ?_
            refine treeI_rd rfl ?_
            refine sxq_want (by rfl) ?_
            refine sxq_val 41 (.int .i64 ((i : Int) + 1)) (by rfl) (fun W hp => (wr_ok (by omega) (by kernel_rfl))) ?_
            refine sxq_nil ?_
            refine treeI_rd rfl ?_
            refine sxq_want (by rfl) ?_
            refine sxq_val 42 (.pointer (some (adr (some ⟨gL, 0, none⟩) ((i : Int) + 1) 1))) (by rfl) (fun W hp => (ix_run (d := (Kd.int .u8)) (row_Cn (hp.at_ 2 _ (by rfl))) (t := 49) (by rfl) (by rfl) (by rfl) Tryz.underlying49 (by kernel_rfl) (by omega) (by omega))) ?_
            refine sxq_nil ?_
            refine treeI_rd rfl ?_
            refine sxq_want (by rfl) ?_
            refine sxq_val 43 (.int .u8 (rd b ((i : Int) + 1))) (by rfl) (fun W hp => (ld1 (t := 5) (p := (.tmp 42)) (by rfl) (by rfl) (by kernel_rfl) (el_cell (d := (Kd.int .u8)) (row_C (hp.at_ 2 _ (by rfl))) 0 ((i : Int) + 1) (by omega) (by omega) (cells := [.int .u8 (rd b ((i : Int) + 1))]) (fun cs h => h) 0 _ (by rfl)))) ?_
            refine sxq_nil ?_
            refine treeI_rd rfl ?_
            refine sxq_want (by rfl) ?_
            refine sxq_val 44 (.bool true) (by rfl) (fun W hp => (bv c_11 (by kernel_rfl))) ?_
            refine sxq_nil ?_
            refine treeI_rd rfl ?_
            refine sxq_val 45 (.bool true) (by rfl) (fun W hp => (by kernel_rfl)) ?_
            refine sxq_nil ?_
            refine treeI_rd rfl ?_
            refine sxq_val 46 (.bool true) (by rfl) (fun W hp => (by kernel_rfl)) ?_
            refine sxq_nil ?_
            refine treeI_rd rfl ?_
            refine sxq_want (by rfl) ?_
            refine sxq_val 47 (.func (.func 82) #[] #[.pointer (some ⟨gt, 0, none⟩), .pointer (some ⟨g_1, 0, none⟩), .pointer (some ⟨gc, 0, none⟩), .pointer (some ⟨gl, 0, none⟩), .pointer (some ⟨gb, 0, none⟩)]) (by rfl) (fun W hp => (by kernel_rfl)) ?_
            refine sxq_nil ?_
            refine treeI_rd rfl ?_
            refine sxq_want (by rfl) ?_
            refine sxq_val 48 (.int .i64 (i : Int)) (by rfl) (fun W hp => (ld1 (t := 3) (p := (.tmp 7)) (by rfl) (by rfl) (by kernel_rfl) (hp.cell 0 (by rfl) 0 _ (by rfl)))) ?_
            refine sxq_nil ?_
            refine treeI_rd rfl ?_
            refine sxq_want (by rfl) ?_
            refine sxq_val 49 (.int .i64 ((i : Int) + 1)) (by rfl) (fun W hp => (wr_ok (by omega) (by kernel_rfl))) ?_
            refine sxq_nil ?_
            refine treeI_fin ?_
            refine tail_of [18, 19, 20] (by rfl) ?_
            refine tailI_op rfl ?_
            refine sx_want (by rfl) ?_
            refine sx_call 50 (by rfl) (by kernel_rfl) (((hT _ (cs) gL gc ge gt gl gb gw w h b g_1 i (i + 1) 101 119 cL FL t g (cst d + 3 + q) hw1 hw2 hwh hn hbn (by omega) hfree (by omega) (by omega) (by simpa using c_11) (by omega) (by omega) hinv2 hB (by omega) (by omega) (hok.mono _ _ _ _ (by first | omega | (simp only [cst]; omega)) hiv) (hp.take [0, 1, 2, 3, 4, 5, 6, 7, 8] 9 (by decide) (by simp)))).mono ?_)
            rintro _ W_13 ⟨FT1, g1, rfl, hi1, hp⟩
            refine ⟨_, rfl, ?_⟩
            refine tailI_next ?_
            refine tailI_op rfl ?_
            refine sx_want (by rfl) ?_
            refine sx_rd 51 (.bool (!((tryG C.S (layG C.S w n d) b i (i + 1) 101 119 t).1))) (by rfl) (by kernel_rfl) ?_
            refine tailI_next ?_
            refine tailI_op rfl ?_
            refine sx_rd 52 (.bool (!((tryG C.S (layG C.S w n d) b i (i + 1) 101 119 t).1))) (by rfl) (by kernel_rfl) ?_
            refine tailI_next ?_
            refine tailI_nil ?_
            refine ex_then_n ?_
            refine sx_cond (!((tryG C.S (layG C.S w n d) b i (i + 1) 101 119 t).1)) (by rfl) (fun c_14 => ?_) (fun c_14 => ?_)
            ·
              refine wp_seq ?_
              refine sx_region ?_
              refine sx_rd 8 (.bool false) (by rfl) (by kernel_rfl) ?_
              refine sx_nil ?_
              refine ex_then_n ?_
              refine wp_ret ?_
              refine ex_then_r ?_
              refine sx_end (.bool false) (res1 8 (by rfl)) ?_
              have hff : ffN b a = i := ffN_hit hai (by omega) hsk hfree
              have hL : layG C.S w n (d + 1) b a t = (false, (tryG C.S (layG C.S w n d) b i (i + 1) 101 119 t).2) := by rw [layG_go hff (by omega), east_yes (by omega) (by have q := c_11; simpa using q), if_neg (by rw [(show ((tryG C.S (layG C.S w n d) b i (i + 1) 101 119 t).1) = false from (not_eq c_14))]; simp)]
              rw [hL]
              exact ⟨_, _, rfl, hok.mono _ _ _ _ (by omega) hi1, (hp.take [1, 2, 3, 4, 5, 6, 7, 8] 9 (by decide) (by simp))⟩
            ·
              refine wp_skip ?_
              refine ex_then_n ?_
              refine wp_seq ?_
              refine wp_seq ?_
              refine sx_region ?_
              refine sx_rd 53 (.int .i64 (i : Int)) (by rfl) (ld1 (t := 3) (p := (.tmp 7)) (by rfl) (by rfl) (by kernel_rfl) (hp.cell 0 (by rfl) 0 _ (by rfl))) ?_
              refine sx_rd 54 (.int .i64 w) (by rfl) (ld1 (t := 3) (p := (.tmp 6)) (by rfl) (by rfl) (by kernel_rfl) (hp.cell 7 (by rfl) 0 _ (by rfl))) ?_
              refine sx_rd 55 (.int .i64 ((i : Int) + w)) (by rfl) (wr_ok (by omega) (by kernel_rfl)) ?_
              refine sx_rd 10 (.int .i64 ((i : Int) + w)) (by rfl) (by kernel_rfl) ?_
              refine sx_nil ?_
              refine ex_then_n ?_
              refine wp_seq ?_
              rcases Bool.eq_false_or_eq_true (decide (((i : Int) + w) < (n : Int))) with c_15 | c_15
              ·
                have c_15p := of_decide_eq_true c_15
                refine sx_region ?_
                refine sx_rd 56 (.int .i64 ((i : Int) + w)) (by rfl) (by kernel_rfl) ?_
                refine sx_rd 57 (.slice (some ⟨gL, 0, none⟩) n cL) (by rfl) (ld1 (t := 49) (p := (.tmp 1)) (by rfl) (by rfl) (by kernel_rfl) (hp.cell 1 (by rfl) 0 _ (by rfl))) ?_
                refine sx_rd 58 (.int .i64 (n : Int)) (by rfl) (by kernel_rfl) ?_
                refine sx_rd 59 (.bool true) (by rfl) (bv c_15 (by kernel_rfl)) ?_
                refine sx_rd 60 (.bool true) (by rfl) (by kernel_rfl) ?_
                refine sx_want (by rfl) ?_
                refine sx_rd 61 (.func (.func 82) #[] #[.pointer (some ⟨gt, 0, none⟩), .pointer (some ⟨g_1, 0, none⟩), .pointer (some ⟨gc, 0, none⟩), .pointer (some ⟨gl, 0, none⟩), .pointer (some ⟨gb, 0, none⟩)]) (by rfl) (by kernel_rfl) ?_
                refine sx_want (by rfl) ?_
                refine sx_rd 62 (.int .i64 ((i : Int) + w)) (by rfl) (by kernel_rfl) ?_
                refine sx_want (by rfl) ?_
                have hJ : ((((i : Int) + w).toNat : Nat) : Int) = (i : Int) + w := Int.toNat_of_nonneg (by omega)
                have hq_16 := (hT _ (cs) gL gc ge gt gl gb gw w h b g_1 i ((i : Int) + w).toNat 115 110 cL FT1 ((tryG C.S (layG C.S w n d) b i (i + 1) 101 119 t).2) g1 q hw1 hw2 hwh hn hbn (by omega) hfree (by omega) (by omega) (by rw [hJ]; have q := hinv2 ((i : Int) + w).toNat (by omega) (by omega); rw [hJ] at q; exact q) (by omega) (by omega) hinv2 hB (by omega) (by omega) (hok.mono _ _ _ _ (by first | omega | (simp only [cst]; omega)) hi1) (hp.take [0, 1, 2, 3, 4, 5, 6, 7, 8] 9 (by decide) (by simp)))
                rw [hJ] at hq_16
                refine sx_call 63 (by rfl) (by kernel_rfl) ((hq_16).mono ?_)
                rintro _ W_17 ⟨FT2, g2, rfl, hi2, hp⟩
                refine ⟨_, rfl, ?_⟩
                refine sx_want (by rfl) ?_
                refine sx_rd 64 (.bool (!((tryG C.S (layG C.S w n d) b i ((i : Int) + w).toNat 115 110 ((tryG C.S (layG C.S w n d) b i (i + 1) 101 119 t).2)).1))) (by rfl) (by kernel_rfl) ?_
                refine sx_rd 65 (.bool (!((tryG C.S (layG C.S w n d) b i ((i : Int) + w).toNat 115 110 ((tryG C.S (layG C.S w n d) b i (i + 1) 101 119 t).2)).1))) (by rfl) (by kernel_rfl) ?_
                refine sx_nil ?_
                refine ex_then_n ?_
                refine sx_cond (!((tryG C.S (layG C.S w n d) b i ((i : Int) + w).toNat 115 110 ((tryG C.S (layG C.S w n d) b i (i + 1) 101 119 t).2)).1)) (by rfl) (fun c_18 => ?_) (fun c_18 => ?_)
                ·
                  refine wp_seq ?_
                  refine sx_region ?_
                  refine sx_rd 8 (.bool false) (by rfl) (by kernel_rfl) ?_
                  refine sx_nil ?_
                  refine ex_then_n ?_
                  refine wp_ret ?_
                  refine ex_then_r ?_
                  refine sx_end (.bool false) (res1 8 (by rfl)) ?_
                  have hff : ffN b a = i := ffN_hit hai (by omega) hsk hfree
                  have hL : layG C.S w n (d + 1) b a t = (false, (tryG C.S (layG C.S w n d) b i ((i : Int) + w).toNat 115 110 ((tryG C.S (layG C.S w n d) b i (i + 1) 101 119 t).2)).2) := by rw [layG_go hff (by omega), east_yes (by omega) (by have q := c_11; simpa using q), if_pos (show ((tryG C.S (layG C.S w n d) b i (i + 1) 101 119 t).1) = true from (not_eq c_14)), south_yes (by omega)]; exact Prod.ext (show ((tryG C.S (layG C.S w n d) b i ((i : Int) + w).toNat 115 110 ((tryG C.S (layG C.S w n d) b i (i + 1) 101 119 t).2)).1) = false from (not_eq c_18)) rfl
                  rw [hL]
                  exact ⟨_, _, rfl, hok.mono _ _ _ _ (by omega) hi2, (hp.take [1, 2, 3, 4, 5, 6, 7, 8] 9 (by decide) (by simp))⟩
                ·
                  refine wp_skip ?_
                  refine ex_then_n ?_
                  refine wp_seq ?_
                  refine sx_region ?_
                  refine sx_rd 8 (.bool true) (by rfl) (by kernel_rfl) ?_
                  refine sx_nil ?_
                  refine ex_then_n ?_
                  refine wp_ret ?_
                  refine sx_end (.bool true) (res1 8 (by rfl)) ?_
                  have hff : ffN b a = i := ffN_hit hai (by omega) hsk hfree
                  have hL : layG C.S w n (d + 1) b a t = (true, (tryG C.S (layG C.S w n d) b i ((i : Int) + w).toNat 115 110 ((tryG C.S (layG C.S w n d) b i (i + 1) 101 119 t).2)).2) := by rw [layG_go hff (by omega), east_yes (by omega) (by have q := c_11; simpa using q), if_pos (show ((tryG C.S (layG C.S w n d) b i (i + 1) 101 119 t).1) = true from (not_eq c_14)), south_yes (by omega)]; exact Prod.ext (show ((tryG C.S (layG C.S w n d) b i ((i : Int) + w).toNat 115 110 ((tryG C.S (layG C.S w n d) b i (i + 1) 101 119 t).2)).1) = true from (not_eq c_18)) rfl
                  rw [hL]
                  exact ⟨_, _, rfl, hok.mono _ _ _ _ (by omega) hi2, (hp.take [1, 2, 3, 4, 5, 6, 7, 8] 9 (by decide) (by simp))⟩
              ·
                have c_15p := of_decide_eq_false c_15
                refine sx_region ?_
                refine sx_rd 56 (.int .i64 ((i : Int) + w)) (by rfl) (by kernel_rfl) ?_
                refine sx_rd 57 (.slice (some ⟨gL, 0, none⟩) n cL) (by rfl) (ld1 (t := 49) (p := (.tmp 1)) (by rfl) (by rfl) (by kernel_rfl) (hp.cell 1 (by rfl) 0 _ (by rfl))) ?_
                refine sx_rd 58 (.int .i64 (n : Int)) (by rfl) (by kernel_rfl) ?_
                refine sx_rd 59 (.bool false) (by rfl) (bv c_15 (by kernel_rfl)) ?_
                refine sx_rd 60 (.bool false) (by rfl) (by kernel_rfl) ?_
                refine sx_skip 61 (by rfl) (by rfl) (by rfl) ?_
                refine sx_skip 62 (by rfl) (by rfl) (by rfl) ?_
                refine sx_skip 63 (by rfl) (by rfl) (by rfl) ?_
                refine sx_skip 64 (by rfl) (by rfl) (by rfl) ?_
                refine sx_rd 65 (.bool false) (by rfl) (by kernel_rfl) ?_
                refine sx_nil ?_
                refine ex_then_n ?_
                refine sx_else false (by rfl) rfl ?_
                refine wp_skip ?_
                refine ex_then_n ?_
                refine wp_seq ?_
                refine sx_region ?_
                refine sx_rd 8 (.bool true) (by rfl) (by kernel_rfl) ?_
                refine sx_nil ?_
                refine ex_then_n ?_
                refine wp_ret ?_
                refine sx_end (.bool true) (res1 8 (by rfl)) ?_
                have hff : ffN b a = i := ffN_hit hai (by omega) hsk hfree
                have hL : layG C.S w n (d + 1) b a t = (true, (tryG C.S (layG C.S w n d) b i (i + 1) 101 119 t).2) := by rw [layG_go hff (by omega), east_yes (by omega) (by have q := c_11; simpa using q), if_pos (show ((tryG C.S (layG C.S w n d) b i (i + 1) 101 119 t).1) = true from (not_eq c_14)), south_no (by omega)]
                rw [hL]
                exact ⟨_, _, rfl, hok.mono _ _ _ _ (by omega) hi1, (hp.take [1, 2, 3, 4, 5, 6, 7, 8] 9 (by decide) (by simp))⟩
          ·
            have c_11p := ne_of_beq_ c_11
            refine sx_drawT [] (.rd 0 (.rd 1 (.rd 2 (.rd 3 (.rd 4 (.rd 5 (.rd 6 (.rd 7 (.rd 8 (.rd 9 (.rd 10 (.rd 11 (.rd 12 (.rd 13 (.rd 14 (.rd 15 (.rd 16 (.rd 17 (.alt 18 (.rd 19 (.rd 20 (.fin))) .non))))))))))))))))))) 21 (C := Hp w0 (blk g_1 #[.int .i64 (i : Int)] 3 :: blk gc #[.slice (some ⟨gL, 0, none⟩) n cL] 49 :: row (Kd.int .u8) 5 w0.heap.size (.slice (some ⟨gL, 0, none⟩) n cL) b FL :: blk ge #[.func (.func C.fe) #[] C.ce] 87 :: blk gt #[.func (.func C.ft) #[] C.ct] 84 :: blk gl #[.func (.func 81) #[] #[.pointer (some ⟨gc, 0, none⟩), .pointer (some ⟨ge, 0, none⟩), .pointer (some ⟨gt, 0, none⟩), .pointer (some ⟨gl, 0, none⟩), .pointer (some ⟨gb, 0, none⟩), .pointer (some ⟨gw, 0, none⟩)]] 102 :: blk gb #[.func (.func C.fb) #[] C.cb] 86 :: blk gw #[.int .i64 w] 3 :: C.X t g :: cs)) (by kernel_rfl) (by kernel_rfl) (fun d _ _ _ _ h => by cases d <;> exact h) (fun W h => h.drew) hp ?_
            refine preI_nil ?_
            intro W_19 hp
            refine treeI_rd rfl ?_
            refine sxq_val 32 (.int .i64 (i : Int)) (by rfl) (fun W hp => (ld1 (t := 3) (p := (.tmp 7)) (by rfl) (by rfl) (by kernel_rfl) (hp.cell 0 (by rfl) 0 _ (by rfl)))) ?_
            refine sxq_nil ?_
            refine treeI_rd rfl ?_
            refine sxq_val 33 (.int .i64 w) (by rfl) (fun W hp => (ld1 (t := 3) (p := (.tmp 6)) (by rfl) (by rfl) (by kernel_rfl) (hp.cell 7 (by rfl) 0 _ (by rfl)))) ?_
            refine sxq_nil ?_
            refine treeI_rd rfl ?_
            refine sxq_val 34 (.int .i64 ((i : Int) % w)) (by rfl) (fun W hp => (rem_run (by rfl) (by rfl) (by rfl) (by omega) (by omega))) ?_
            refine sxq_nil ?_
            refine treeI_rd rfl ?_
            refine sxq_val 35 (.int .i64 w) (by rfl) (fun W hp => (ld1 (t := 3) (p := (.tmp 6)) (by rfl) (by rfl) (by kernel_rfl) (hp.cell 7 (by rfl) 0 _ (by rfl)))) ?_
            refine sxq_nil ?_
            refine treeI_rd rfl ?_
            refine sxq_val 36 (.int .i64 (w - 1)) (by rfl) (fun W hp => (wr_ok (by omega) (by kernel_rfl))) ?_
            refine sxq_nil ?_
            refine treeI_rd rfl ?_
            refine sxq_val 37 (.bool true) (by rfl) (fun W hp => (bv c_10 (by kernel_rfl))) ?_
            refine sxq_nil ?_
            refine treeI_rd rfl ?_
            refine sxq_val 38 (.bool true) (by rfl) (fun W hp => (by kernel_rfl)) ?_
            refine sxq_nil ?_
            refine treeI_rd rfl ?_
            refine sxq_want (by rfl) ?_
            refine sxq_val 39 (.slice (some ⟨gL, 0, none⟩) n cL) (by rfl) (fun W hp => (ld1 (t := 49) (p := (.tmp 1)) (by rfl) (by rfl) (by kernel_rfl) (hp.cell 1 (by rfl) 0 _ (by rfl)))) ?_
            refine sxq_nil ?_
            refine treeI_rd rfl ?_
            refine sxq_want (by rfl) ?_
            refine sxq_val 40 (.int .i64 (i : Int)) (by rfl) (fun W hp => (ld1 (t := 3) (p := (.tmp 7)) (by rfl) (by rfl) (by kernel_rfl) (hp.cell 0 (by rfl) 0 _ (by rfl)))) ?_
            refine sxq_nil ?_
            refine treeI_rd rfl ?_
            refine sxq_want (by rfl) ?_
            refine sxq_val 41 (.int .i64 ((i : Int) + 1)) (by rfl) (fun W hp => (wr_ok (by omega) (by kernel_rfl))) ?_
            refine sxq_nil ?_
            refine treeI_rd rfl ?_
            refine sxq_want (by rfl) ?_
            refine sxq_val 42 (.pointer (some (adr (some ⟨gL, 0, none⟩) ((i : Int) + 1) 1))) (by rfl) (fun W hp => (ix_run (d := (Kd.int .u8)) (row_Cn (hp.at_ 2 _ (by rfl))) (t := 49) (by rfl) (by rfl) (by rfl) Tryz.underlying49 (by kernel_rfl) (by omega) (by omega))) ?_
            refine sxq_nil ?_
            refine treeI_rd rfl ?_
            refine sxq_want (by rfl) ?_
            refine sxq_val 43 (.int .u8 (rd b ((i : Int) + 1))) (by rfl) (fun W hp => (ld1 (t := 5) (p := (.tmp 42)) (by rfl) (by rfl) (by kernel_rfl) (el_cell (d := (Kd.int .u8)) (row_C (hp.at_ 2 _ (by rfl))) 0 ((i : Int) + 1) (by omega) (by omega) (cells := [.int .u8 (rd b ((i : Int) + 1))]) (fun cs h => h) 0 _ (by rfl)))) ?_
            refine sxq_nil ?_
            refine treeI_rd rfl ?_
            refine sxq_want (by rfl) ?_
            refine sxq_val 44 (.bool false) (by rfl) (fun W hp => (bv c_11 (by kernel_rfl))) ?_
            refine sxq_nil ?_
            refine treeI_rd rfl ?_
            refine sxq_val 45 (.bool false) (by rfl) (fun W hp => (by kernel_rfl)) ?_
            refine sxq_nil ?_
            refine treeI_rd rfl ?_
            refine sxq_val 46 (.bool false) (by rfl) (fun W hp => (by kernel_rfl)) ?_
            refine sxq_nil ?_
            refine treeI_rd rfl ?_
            refine sxq_skip 47 (by rfl) (by rfl) (by rfl) ?_
            refine sxq_nil ?_
            refine treeI_rd rfl ?_
            refine sxq_skip 48 (by rfl) (by rfl) (by rfl) ?_
            refine sxq_nil ?_
            refine treeI_rd rfl ?_
            refine sxq_skip 49 (by rfl) (by rfl) (by rfl) ?_
            refine sxq_nil ?_
            refine treeI_ev rfl ?_
            refine sx_skip 50 (by rfl) (by rfl) (by rfl) ?_
            refine step_fin hp ?_
            refine treeI_rd rfl ?_
            refine sxq_skip 51 (by rfl) (by rfl) (by rfl) ?_
            refine sxq_nil ?_
            refine treeI_rd rfl ?_
            refine sxq_val 52 (.bool false) (by rfl) (fun W hp => (by kernel_rfl)) ?_
            refine sxq_nil ?_
            refine treeI_fin ?_
            refine sx_nil ?_
            refine ex_then_n ?_
            refine sx_else false (by rfl) rfl ?_
            refine wp_skip ?_
            refine ex_then_n ?_
            refine wp_seq ?_
            refine wp_seq ?_
            refine sx_region ?_
            refine sx_rd 53 (.int .i64 (i : Int)) (by rfl) (ld1 (t := 3) (p := (.tmp 7)) (by rfl) (by rfl) (by kernel_rfl) (hp.cell 0 (by rfl) 0 _ (by rfl))) ?_
            refine sx_rd 54 (.int .i64 w) (by rfl) (ld1 (t := 3) (p := (.tmp 6)) (by rfl) (by rfl) (by kernel_rfl) (hp.cell 7 (by rfl) 0 _ (by rfl))) ?_
            refine sx_rd 55 (.int .i64 ((i : Int) + w)) (by rfl) (wr_ok (by omega) (by kernel_rfl)) ?_
            refine sx_rd 10 (.int .i64 ((i : Int) + w)) (by rfl) (by kernel_rfl) ?_
            refine sx_nil ?_
            refine ex_then_n ?_
            refine wp_seq ?_
            rcases Bool.eq_false_or_eq_true (decide (((i : Int) + w) < (n : Int))) with c_20 | c_20
            ·
              have c_20p := of_decide_eq_true c_20
              refine sx_region ?_
              refine sx_rd 56 (.int .i64 ((i : Int) + w)) (by rfl) (by kernel_rfl) ?_
              refine sx_rd 57 (.slice (some ⟨gL, 0, none⟩) n cL) (by rfl) (ld1 (t := 49) (p := (.tmp 1)) (by rfl) (by rfl) (by kernel_rfl) (hp.cell 1 (by rfl) 0 _ (by rfl))) ?_
              refine sx_rd 58 (.int .i64 (n : Int)) (by rfl) (by kernel_rfl) ?_
              refine sx_rd 59 (.bool true) (by rfl) (bv c_20 (by kernel_rfl)) ?_
              refine sx_rd 60 (.bool true) (by rfl) (by kernel_rfl) ?_
              refine sx_want (by rfl) ?_
              refine sx_rd 61 (.func (.func 82) #[] #[.pointer (some ⟨gt, 0, none⟩), .pointer (some ⟨g_1, 0, none⟩), .pointer (some ⟨gc, 0, none⟩), .pointer (some ⟨gl, 0, none⟩), .pointer (some ⟨gb, 0, none⟩)]) (by rfl) (by kernel_rfl) ?_
              refine sx_want (by rfl) ?_
              refine sx_rd 62 (.int .i64 ((i : Int) + w)) (by rfl) (by kernel_rfl) ?_
              refine sx_want (by rfl) ?_
              have hJ : ((((i : Int) + w).toNat : Nat) : Int) = (i : Int) + w := Int.toNat_of_nonneg (by omega)
              have hq_21 := (hT _ (cs) gL gc ge gt gl gb gw w h b g_1 i ((i : Int) + w).toNat 115 110 cL FL t g q hw1 hw2 hwh hn hbn (by omega) hfree (by omega) (by omega) (by rw [hJ]; have q := hinv2 ((i : Int) + w).toNat (by omega) (by omega); rw [hJ] at q; exact q) (by omega) (by omega) hinv2 hB (by omega) (by omega) (hok.mono _ _ _ _ (by first | omega | (simp only [cst]; omega)) hiv) (hp.take [0, 1, 2, 3, 4, 5, 6, 7, 8] 9 (by decide) (by simp)))
              rw [hJ] at hq_21
              refine sx_call 63 (by rfl) (by kernel_rfl) ((hq_21).mono ?_)
              rintro _ W_22 ⟨FT2, g2, rfl, hi2, hp⟩
              refine ⟨_, rfl, ?_⟩
              refine sx_want (by rfl) ?_
              refine sx_rd 64 (.bool (!((tryG C.S (layG C.S w n d) b i ((i : Int) + w).toNat 115 110 t).1))) (by rfl) (by kernel_rfl) ?_
              refine sx_rd 65 (.bool (!((tryG C.S (layG C.S w n d) b i ((i : Int) + w).toNat 115 110 t).1))) (by rfl) (by kernel_rfl) ?_
              refine sx_nil ?_
              refine ex_then_n ?_
              refine sx_cond (!((tryG C.S (layG C.S w n d) b i ((i : Int) + w).toNat 115 110 t).1)) (by rfl) (fun c_23 => ?_) (fun c_23 => ?_)
              ·
                refine wp_seq ?_
                refine sx_region ?_
                refine sx_rd 8 (.bool false) (by rfl) (by kernel_rfl) ?_
                refine sx_nil ?_
                refine ex_then_n ?_
                refine wp_ret ?_
                refine ex_then_r ?_
                refine sx_end (.bool false) (res1 8 (by rfl)) ?_
                have hff : ffN b a = i := ffN_hit hai (by omega) hsk hfree
                have hL : layG C.S w n (d + 1) b a t = (false, (tryG C.S (layG C.S w n d) b i ((i : Int) + w).toNat 115 110 t).2) := by rw [layG_go hff (by omega), east_full (by have q := c_11; simpa using q), if_pos rfl, south_yes (by omega)]; exact Prod.ext (show ((tryG C.S (layG C.S w n d) b i ((i : Int) + w).toNat 115 110 t).1) = false from (not_eq c_23)) rfl
                rw [hL]
                exact ⟨_, _, rfl, hok.mono _ _ _ _ (by omega) hi2, (hp.take [1, 2, 3, 4, 5, 6, 7, 8] 9 (by decide) (by simp))⟩
              ·
                refine wp_skip ?_
                refine ex_then_n ?_
                refine wp_seq ?_
                refine sx_region ?_
                refine sx_rd 8 (.bool true) (by rfl) (by kernel_rfl) ?_
                refine sx_nil ?_
                refine ex_then_n ?_
                refine wp_ret ?_
                refine sx_end (.bool true) (res1 8 (by rfl)) ?_
                have hff : ffN b a = i := ffN_hit hai (by omega) hsk hfree
                have hL : layG C.S w n (d + 1) b a t = (true, (tryG C.S (layG C.S w n d) b i ((i : Int) + w).toNat 115 110 t).2) := by rw [layG_go hff (by omega), east_full (by have q := c_11; simpa using q), if_pos rfl, south_yes (by omega)]; exact Prod.ext (show ((tryG C.S (layG C.S w n d) b i ((i : Int) + w).toNat 115 110 t).1) = true from (not_eq c_23)) rfl
                rw [hL]
                exact ⟨_, _, rfl, hok.mono _ _ _ _ (by omega) hi2, (hp.take [1, 2, 3, 4, 5, 6, 7, 8] 9 (by decide) (by simp))⟩
            ·
              have c_20p := of_decide_eq_false c_20
              refine sx_region ?_
              refine sx_rd 56 (.int .i64 ((i : Int) + w)) (by rfl) (by kernel_rfl) ?_
              refine sx_rd 57 (.slice (some ⟨gL, 0, none⟩) n cL) (by rfl) (ld1 (t := 49) (p := (.tmp 1)) (by rfl) (by rfl) (by kernel_rfl) (hp.cell 1 (by rfl) 0 _ (by rfl))) ?_
              refine sx_rd 58 (.int .i64 (n : Int)) (by rfl) (by kernel_rfl) ?_
              refine sx_rd 59 (.bool false) (by rfl) (bv c_20 (by kernel_rfl)) ?_
              refine sx_rd 60 (.bool false) (by rfl) (by kernel_rfl) ?_
              refine sx_skip 61 (by rfl) (by rfl) (by rfl) ?_
              refine sx_skip 62 (by rfl) (by rfl) (by rfl) ?_
              refine sx_skip 63 (by rfl) (by rfl) (by rfl) ?_
              refine sx_skip 64 (by rfl) (by rfl) (by rfl) ?_
              refine sx_rd 65 (.bool false) (by rfl) (by kernel_rfl) ?_
              refine sx_nil ?_
              refine ex_then_n ?_
              refine sx_else false (by rfl) rfl ?_
              refine wp_skip ?_
              refine ex_then_n ?_
              refine wp_seq ?_
              refine sx_region ?_
              refine sx_rd 8 (.bool true) (by rfl) (by kernel_rfl) ?_
              refine sx_nil ?_
              refine ex_then_n ?_
              refine wp_ret ?_
              refine sx_end (.bool true) (res1 8 (by rfl)) ?_
              have hff : ffN b a = i := ffN_hit hai (by omega) hsk hfree
              have hL : layG C.S w n (d + 1) b a t = (true, t) := by rw [layG_go hff (by omega), east_full (by have q := c_11; simpa using q), if_pos rfl, south_no (by omega)]
              rw [hL]
              exact ⟨_, _, rfl, hok.mono _ _ _ _ (by simp only [cst]; omega) hiv, (hp.take [1, 2, 3, 4, 5, 6, 7, 8] 9 (by decide) (by simp))⟩
        ·
          have c_10p := of_decide_eq_false c_10
          refine sx_drawT [] (.rd 0 (.rd 1 (.rd 2 (.rd 3 (.rd 4 (.rd 5 (.rd 6 (.rd 7 (.rd 8 (.rd 9 (.rd 10 (.rd 11 (.rd 12 (.rd 13 (.rd 14 (.rd 15 (.rd 16 (.rd 17 (.alt 18 (.rd 19 (.rd 20 (.fin))) .non))))))))))))))))))) 21 (C := Hp w0 (blk g_1 #[.int .i64 (i : Int)] 3 :: blk gc #[.slice (some ⟨gL, 0, none⟩) n cL] 49 :: row (Kd.int .u8) 5 w0.heap.size (.slice (some ⟨gL, 0, none⟩) n cL) b FL :: blk ge #[.func (.func C.fe) #[] C.ce] 87 :: blk gt #[.func (.func C.ft) #[] C.ct] 84 :: blk gl #[.func (.func 81) #[] #[.pointer (some ⟨gc, 0, none⟩), .pointer (some ⟨ge, 0, none⟩), .pointer (some ⟨gt, 0, none⟩), .pointer (some ⟨gl, 0, none⟩), .pointer (some ⟨gb, 0, none⟩), .pointer (some ⟨gw, 0, none⟩)]] 102 :: blk gb #[.func (.func C.fb) #[] C.cb] 86 :: blk gw #[.int .i64 w] 3 :: C.X t g :: cs)) (by kernel_rfl) (by kernel_rfl) (fun d _ _ _ _ h => by cases d <;> exact h) (fun W h => h.drew) hp ?_
          refine preI_nil ?_
          intro W_24 hp
          refine treeI_rd rfl ?_
          refine sxq_val 32 (.int .i64 (i : Int)) (by rfl) (fun W hp => (ld1 (t := 3) (p := (.tmp 7)) (by rfl) (by rfl) (by kernel_rfl) (hp.cell 0 (by rfl) 0 _ (by rfl)))) ?_
          refine sxq_nil ?_
          refine treeI_rd rfl ?_
          refine sxq_val 33 (.int .i64 w) (by rfl) (fun W hp => (ld1 (t := 3) (p := (.tmp 6)) (by rfl) (by rfl) (by kernel_rfl) (hp.cell 7 (by rfl) 0 _ (by rfl)))) ?_
          refine sxq_nil ?_
          refine treeI_rd rfl ?_
          refine sxq_val 34 (.int .i64 ((i : Int) % w)) (by rfl) (fun W hp => (rem_run (by rfl) (by rfl) (by rfl) (by omega) (by omega))) ?_
          refine sxq_nil ?_
          refine treeI_rd rfl ?_
          refine sxq_val 35 (.int .i64 w) (by rfl) (fun W hp => (ld1 (t := 3) (p := (.tmp 6)) (by rfl) (by rfl) (by kernel_rfl) (hp.cell 7 (by rfl) 0 _ (by rfl)))) ?_
          refine sxq_nil ?_
          refine treeI_rd rfl ?_
          refine sxq_val 36 (.int .i64 (w - 1)) (by rfl) (fun W hp => (wr_ok (by omega) (by kernel_rfl))) ?_
          refine sxq_nil ?_
          refine treeI_rd rfl ?_
          refine sxq_val 37 (.bool false) (by rfl) (fun W hp => (bv c_10 (by kernel_rfl))) ?_
          refine sxq_nil ?_
          refine treeI_rd rfl ?_
          refine sxq_val 38 (.bool false) (by rfl) (fun W hp => (by kernel_rfl)) ?_
          refine sxq_nil ?_
          refine treeI_rd rfl ?_
          refine sxq_skip 39 (by rfl) (by rfl) (by rfl) ?_
          refine sxq_nil ?_
          refine treeI_rd rfl ?_
          refine sxq_skip 40 (by rfl) (by rfl) (by rfl) ?_
          refine sxq_nil ?_
          refine treeI_rd rfl ?_
          refine sxq_skip 41 (by rfl) (by rfl) (by rfl) ?_
          refine sxq_nil ?_
          refine treeI_rd rfl ?_
          refine sxq_skip 42 (by rfl) (by rfl) (by rfl) ?_
          refine sxq_nil ?_
          refine treeI_rd rfl ?_
          refine sxq_skip 43 (by rfl) (by rfl) (by rfl) ?_
          refine sxq_nil ?_
          refine treeI_rd rfl ?_
          refine sxq_skip 44 (by rfl) (by rfl) (by rfl) ?_
          refine sxq_nil ?_
          refine treeI_rd rfl ?_
          refine sxq_val 45 (.bool false) (by rfl) (fun W hp => (by kernel_rfl)) ?_
          refine sxq_nil ?_
          refine treeI_rd rfl ?_
          refine sxq_val 46 (.bool false) (by rfl) (fun W hp => (by kernel_rfl)) ?_
          refine sxq_nil ?_
          refine treeI_rd rfl ?_
          refine sxq_skip 47 (by rfl) (by rfl) (by rfl) ?_
          refine sxq_nil ?_
          refine treeI_rd rfl ?_
          refine sxq_skip 48 (by rfl) (by rfl) (by rfl) ?_
          refine sxq_nil ?_
          refine treeI_rd rfl ?_
          refine sxq_skip 49 (by rfl) (by rfl) (by rfl) ?_
          refine sxq_nil ?_
          refine treeI_ev rfl ?_
          refine sx_skip 50 (by rfl) (by rfl) (by rfl) ?_
          refine step_fin hp ?_
          refine treeI_rd rfl ?_
          refine sxq_skip 51 (by rfl) (by rfl) (by rfl) ?_
          refine sxq_nil ?_
          refine treeI_rd rfl ?_
          refine sxq_val 52 (.bool false) (by rfl) (fun W hp => (by kernel_rfl)) ?_
          refine sxq_nil ?_
          refine treeI_fin ?_
          refine sx_nil ?_
          refine ex_then_n ?_
          refine sx_else false (by rfl) rfl ?_
          refine wp_skip ?_
          refine ex_then_n ?_
          refine wp_seq ?_
          refine wp_seq ?_
          refine sx_region ?_
          refine sx_rd 53 (.int .i64 (i : Int)) (by rfl) (ld1 (t := 3) (p := (.tmp 7)) (by rfl) (by rfl) (by kernel_rfl) (hp.cell 0 (by rfl) 0 _ (by rfl))) ?_
          refine sx_rd 54 (.int .i64 w) (by rfl) (ld1 (t := 3) (p := (.tmp 6)) (by rfl) (by rfl) (by kernel_rfl) (hp.cell 7 (by rfl) 0 _ (by rfl))) ?_
          refine sx_rd 55 (.int .i64 ((i : Int) + w)) (by rfl) (wr_ok (by omega) (by kernel_rfl)) ?_
          refine sx_rd 10 (.int .i64 ((i : Int) + w)) (by rfl) (by kernel_rfl) ?_
          refine sx_nil ?_
          refine ex_then_n ?_
          refine wp_seq ?_
          rcases Bool.eq_false_or_eq_true (decide (((i : Int) + w) < (n : Int))) with c_25 | c_25
          ·
            have c_25p := of_decide_eq_true c_25
            refine sx_region ?_
            refine sx_rd 56 (.int .i64 ((i : Int) + w)) (by rfl) (by kernel_rfl) ?_
            refine sx_rd 57 (.slice (some ⟨gL, 0, none⟩) n cL) (by rfl) (ld1 (t := 49) (p := (.tmp 1)) (by rfl) (by rfl) (by kernel_rfl) (hp.cell 1 (by rfl) 0 _ (by rfl))) ?_
            refine sx_rd 58 (.int .i64 (n : Int)) (by rfl) (by kernel_rfl) ?_
            refine sx_rd 59 (.bool true) (by rfl) (bv c_25 (by kernel_rfl)) ?_
            refine sx_rd 60 (.bool true) (by rfl) (by kernel_rfl) ?_
            refine sx_want (by rfl) ?_
            refine sx_rd 61 (.func (.func 82) #[] #[.pointer (some ⟨gt, 0, none⟩), .pointer (some ⟨g_1, 0, none⟩), .pointer (some ⟨gc, 0, none⟩), .pointer (some ⟨gl, 0, none⟩), .pointer (some ⟨gb, 0, none⟩)]) (by rfl) (by kernel_rfl) ?_
            refine sx_want (by rfl) ?_
            refine sx_rd 62 (.int .i64 ((i : Int) + w)) (by rfl) (by kernel_rfl) ?_
            refine sx_want (by rfl) ?_
            have hJ : ((((i : Int) + w).toNat : Nat) : Int) = (i : Int) + w := Int.toNat_of_nonneg (by omega)
            have hq_26 := (hT _ (cs) gL gc ge gt gl gb gw w h b g_1 i ((i : Int) + w).toNat 115 110 cL FL t g q hw1 hw2 hwh hn hbn (by omega) hfree (by omega) (by omega) (by rw [hJ]; have q := hinv2 ((i : Int) + w).toNat (by omega) (by omega); rw [hJ] at q; exact q) (by omega) (by omega) hinv2 hB (by omega) (by omega) (hok.mono _ _ _ _ (by first | omega | (simp only [cst]; omega)) hiv) (hp.take [0, 1, 2, 3, 4, 5, 6, 7, 8] 9 (by decide) (by simp)))
            rw [hJ] at hq_26
            refine sx_call 63 (by rfl) (by kernel_rfl) ((hq_26).mono ?_)
            rintro _ W_27 ⟨FT2, g2, rfl, hi2, hp⟩
            refine ⟨_, rfl, ?_⟩
            refine sx_want (by rfl) ?_
            refine sx_rd 64 (.bool (!((tryG C.S (layG C.S w n d) b i ((i : Int) + w).toNat 115 110 t).1))) (by rfl) (by kernel_rfl) ?_
            refine sx_rd 65 (.bool (!((tryG C.S (layG C.S w n d) b i ((i : Int) + w).toNat 115 110 t).1))) (by rfl) (by kernel_rfl) ?_
            refine sx_nil ?_
            refine ex_then_n ?_
            refine sx_cond (!((tryG C.S (layG C.S w n d) b i ((i : Int) + w).toNat 115 110 t).1)) (by rfl) (fun c_28 => ?_) (fun c_28 => ?_)
            ·
              refine wp_seq ?_
              refine sx_region ?_
              refine sx_rd 8 (.bool false) (by rfl) (by kernel_rfl) ?_
              refine sx_nil ?_
              refine ex_then_n ?_
              refine wp_ret ?_
              refine ex_then_r ?_
              refine sx_end (.bool false) (res1 8 (by rfl)) ?_
              have hff : ffN b a = i := ffN_hit hai (by omega) hsk hfree
              have hL : layG C.S w n (d + 1) b a t = (false, (tryG C.S (layG C.S w n d) b i ((i : Int) + w).toNat 115 110 t).2) := by rw [layG_go hff (by omega), east_no (by omega), if_pos rfl, south_yes (by omega)]; exact Prod.ext (show ((tryG C.S (layG C.S w n d) b i ((i : Int) + w).toNat 115 110 t).1) = false from (not_eq c_28)) rfl
              rw [hL]
              exact ⟨_, _, rfl, hok.mono _ _ _ _ (by omega) hi2, (hp.take [1, 2, 3, 4, 5, 6, 7, 8] 9 (by decide) (by simp))⟩
            ·
              refine wp_skip ?_
              refine ex_then_n ?_
              refine wp_seq ?_
              refine sx_region ?_
              refine sx_rd 8 (.bool true) (by rfl) (by kernel_rfl) ?_
              refine sx_nil ?_
              refine ex_then_n ?_
              refine wp_ret ?_
              refine sx_end (.bool true) (res1 8 (by rfl)) ?_
              have hff : ffN b a = i := ffN_hit hai (by omega) hsk hfree
              have hL : layG C.S w n (d + 1) b a t = (true, (tryG C.S (layG C.S w n d) b i ((i : Int) + w).toNat 115 110 t).2) := by rw [layG_go hff (by omega), east_no (by omega), if_pos rfl, south_yes (by omega)]; exact Prod.ext (show ((tryG C.S (layG C.S w n d) b i ((i : Int) + w).toNat 115 110 t).1) = true from (not_eq c_28)) rfl
              rw [hL]
              exact ⟨_, _, rfl, hok.mono _ _ _ _ (by omega) hi2, (hp.take [1, 2, 3, 4, 5, 6, 7, 8] 9 (by decide) (by simp))⟩
          ·
            have c_25p := of_decide_eq_false c_25
            refine sx_region ?_
            refine sx_rd 56 (.int .i64 ((i : Int) + w)) (by rfl) (by kernel_rfl) ?_
            refine sx_rd 57 (.slice (some ⟨gL, 0, none⟩) n cL) (by rfl) (ld1 (t := 49) (p := (.tmp 1)) (by rfl) (by rfl) (by kernel_rfl) (hp.cell 1 (by rfl) 0 _ (by rfl))) ?_
            refine sx_rd 58 (.int .i64 (n : Int)) (by rfl) (by kernel_rfl) ?_
            refine sx_rd 59 (.bool false) (by rfl) (bv c_25 (by kernel_rfl)) ?_
            refine sx_rd 60 (.bool false) (by rfl) (by kernel_rfl) ?_
            refine sx_skip 61 (by rfl) (by rfl) (by rfl) ?_
            refine sx_skip 62 (by rfl) (by rfl) (by rfl) ?_
            refine sx_skip 63 (by rfl) (by rfl) (by rfl) ?_
            refine sx_skip 64 (by rfl) (by rfl) (by rfl) ?_
            refine sx_rd 65 (.bool false) (by rfl) (by kernel_rfl) ?_
            refine sx_nil ?_
            refine ex_then_n ?_
            refine sx_else false (by rfl) rfl ?_
            refine wp_skip ?_
            refine ex_then_n ?_
            refine wp_seq ?_
            refine sx_region ?_
            refine sx_rd 8 (.bool true) (by rfl) (by kernel_rfl) ?_
            refine sx_nil ?_
            refine ex_then_n ?_
            refine wp_ret ?_
            refine sx_end (.bool true) (res1 8 (by rfl)) ?_
            have hff : ffN b a = i := ffN_hit hai (by omega) hsk hfree
            have hL : layG C.S w n (d + 1) b a t = (true, t) := by rw [layG_go hff (by omega), east_no (by omega), if_pos rfl, south_no (by omega)]
            rw [hL]
            exact ⟨_, _, rfl, hok.mono _ _ _ _ (by simp only [cst]; omega) hiv, (hp.take [1, 2, 3, 4, 5, 6, 7, 8] 9 (by decide) (by simp))⟩
  ·
    have c_4p := of_decide_eq_false c_4
    refine sx_region ?_
    refine sx_rd 11 (.int .i64 (i : Int)) (by rfl) (ld1 (t := 3) (p := (.tmp 7)) (by rfl) (by rfl) (by kernel_rfl) (hp.cell 0 (by rfl) 0 _ (by rfl))) ?_
    refine sx_rd 12 (.slice (some ⟨gL, 0, none⟩) n cL) (by rfl) (ld1 (t := 49) (p := (.tmp 1)) (by rfl) (by rfl) (by kernel_rfl) (hp.cell 1 (by rfl) 0 _ (by rfl))) ?_
    refine sx_rd 13 (.int .i64 (n : Int)) (by rfl) (by kernel_rfl) ?_
    refine sx_rd 14 (.bool false) (by rfl) (bv c_4 (by kernel_rfl)) ?_
    refine sx_rd 15 (.bool false) (by rfl) (by kernel_rfl) ?_
    refine sx_skip 16 (by rfl) (by rfl) (by rfl) ?_
    refine sx_skip 17 (by rfl) (by rfl) (by rfl) ?_
    refine sx_skip 18 (by rfl) (by rfl) (by rfl) ?_
    refine sx_skip 19 (by rfl) (by rfl) (by rfl) ?_
    refine sx_skip 20 (by rfl) (by rfl) (by rfl) ?_
    refine sx_rd 21 (.bool false) (by rfl) (by kernel_rfl) ?_
    refine sx_nil ?_
    refine ex_then_n ?_
    refine sx_else false (by rfl) rfl ?_
    refine wp_exit ?_
    refine ex_then_e (ex_then_e (ex_blk_here ?_))
    refine ex_then_n ?_
    refine wp_seq ?_
    refine wp_seq ?_
    refine sx_region ?_
    refine sx_rd 24 (.int .i64 (i : Int)) (by rfl) (ld1 (t := 3) (p := (.tmp 7)) (by rfl) (by rfl) (by kernel_rfl) (hp.cell 0 (by rfl) 0 _ (by rfl))) ?_
    refine sx_rd 25 (.slice (some ⟨gL, 0, none⟩) n cL) (by rfl) (ld1 (t := 49) (p := (.tmp 1)) (by rfl) (by rfl) (by kernel_rfl) (hp.cell 1 (by rfl) 0 _ (by rfl))) ?_
    refine sx_rd 26 (.int .i64 (n : Int)) (by rfl) (by kernel_rfl) ?_
    refine sx_rd 27 (.bool ((i : Int) == (n : Int))) (by rfl) (by kernel_rfl) ?_
    refine sx_nil ?_
    refine ex_then_n ?_
    refine sx_cond ((i : Int) == (n : Int)) (by rfl) (fun c_29 => ?_) (fun c_29 => ?_)
    ·
      have c_29p := eq_of_beq_ c_29
      refine wp_seq ?_
      refine sx_region ?_
      refine sx_rd 28 (.func (.func C.fe) #[] C.ce) (by rfl) (ld1 (t := 87) (p := (.tmp 2)) (by rfl) (by rfl) (by kernel_rfl) (hp.cell 3 (by rfl) 0 _ (by rfl))) ?_
      refine sx_rd 29 (.slice (some ⟨gL, 0, none⟩) n cL) (by rfl) (ld1 (t := 49) (p := (.tmp 1)) (by rfl) (by rfl) (by kernel_rfl) (hp.cell 1 (by rfl) 0 _ (by rfl))) ?_
      refine sx_call 30 (by rfl) (callv_run (by rfl) (by rfl) hok.enE (by rfl)) (((hok.each (blk g_1 #[.int .i64 (i : Int)] 3 :: blk gc #[.slice (some ⟨gL, 0, none⟩) n cL] 49 :: blk ge #[.func (.func C.fe) #[] C.ce] 87 :: blk gt #[.func (.func C.ft) #[] C.ct] 84 :: blk gl #[.func (.func 81) #[] #[.pointer (some ⟨gc, 0, none⟩), .pointer (some ⟨ge, 0, none⟩), .pointer (some ⟨gt, 0, none⟩), .pointer (some ⟨gl, 0, none⟩), .pointer (some ⟨gb, 0, none⟩), .pointer (some ⟨gw, 0, none⟩)]] 102 :: blk gb #[.func (.func C.fb) #[] C.cb] 86 :: blk gw #[.int .i64 w] 3 :: cs) _ q t g b gL cL FL (hok.mono _ _ _ _ (by first | omega | (simp only [cst]; omega)) hiv) hbn hB (hp.take [8, 2, 0, 1, 3, 4, 5, 6, 7] 9 (by decide) (by simp)))).mono ?_)
      rintro _ W_30 ⟨g9, rfl, hi9, hp⟩
      refine ⟨_, rfl, ?_⟩
      refine sx_rd 8 (.bool ((C.S.each t b).1)) (by rfl) (by kernel_rfl) ?_
      refine sx_nil ?_
      refine ex_then_n ?_
      refine wp_ret ?_
      refine ex_then_r ?_
      refine sx_end (.bool ((C.S.each t b).1)) (res1 8 (by rfl)) ?_
      obtain rfl : i = n := by omega
      have hff : ffN b a = b.length := ffN_end (by omega) (fun j h1 h2 => hsk j h1 (by omega))
      rw [layG_end hff]
      exact ⟨_, _, rfl, hi9, (hp.take [3, 1, 4, 5, 6, 7, 8, 0] 9 (by decide) (by simp))⟩
    ·
      have c_29p := ne_of_beq_ c_29
      have hlt : i < n := by omega
      have hfree : rd b (i : Int) = 0 := by exact absurd c_29p (by omega)
      have hinv2 : ∀ k : Nat, (i : Int) + w ≤ (k : Int) → k < b.length → rd b (k : Int) = 0 := fun k h1 h2 => hinv k (by omega) h2
      refine wp_skip ?_
      refine ex_then_n ?_
      refine wp_seq ?_
      refine sx_region ?_
      refine sx_rd 31 (.func (.func 82) #[] #[.pointer (some ⟨gt, 0, none⟩), .pointer (some ⟨g_1, 0, none⟩), .pointer (some ⟨gc, 0, none⟩), .pointer (some ⟨gl, 0, none⟩), .pointer (some ⟨gb, 0, none⟩)]) (by rfl) (by kernel_rfl) ?_
      refine sx_rd 9 (.func (.func 82) #[] #[.pointer (some ⟨gt, 0, none⟩), .pointer (some ⟨g_1, 0, none⟩), .pointer (some ⟨gc, 0, none⟩), .pointer (some ⟨gl, 0, none⟩), .pointer (some ⟨gb, 0, none⟩)]) (by rfl) (by kernel_rfl) ?_
      refine sx_nil ?_
      refine ex_then_n ?_
      refine wp_seq ?_
      refine wp_seq ?_
      rcases Bool.eq_false_or_eq_true (decide (((i : Int) % w) < (w - 1))) with c_31 | c_31
      ·
        have c_31p := of_decide_eq_true c_31
        have hE1 : (i : Int) + 1 < n := by have q := nearE_bd (i := (i : Int)) hw1 hwh (by omega) (by omega); unfold nearE at q; rw [if_pos (by omega)] at q; omega
        rcases Bool.eq_false_or_eq_true ((rd b ((i : Int) + 1)) == 0) with c_32 | c_32
        ·
          have c_32p := eq_of_beq_ c_32
          refine sx_drawT [] (.rd 0 (.rd 1 (.rd 2 (.rd 3 (.rd 4 (.rd 5 (.rd 6 (.rd 7 (.rd 8 (.rd 9 (.rd 10 (.rd 11 (.rd 12 (.rd 13 (.rd 14 (.rd 15 (.rd 16 (.rd 17 (.fin))))))))))))))))))) 18 (C := Hp w0 (blk g_1 #[.int .i64 (i : Int)] 3 :: blk gc #[.slice (some ⟨gL, 0, none⟩) n cL] 49 :: row (Kd.int .u8) 5 w0.heap.size (.slice (some ⟨gL, 0, none⟩) n cL) b FL :: blk ge #[.func (.func C.fe) #[] C.ce] 87 :: blk gt #[.func (.func C.ft) #[] C.ct] 84 :: blk gl #[.func (.func 81) #[] #[.pointer (some ⟨gc, 0, none⟩), .pointer (some ⟨ge, 0, none⟩), .pointer (some ⟨gt, 0, none⟩), .pointer (some ⟨gl, 0, none⟩), .pointer (some ⟨gb, 0, none⟩), .pointer (some ⟨gw, 0, none⟩)]] 102 :: blk gb #[.func (.func C.fb) #[] C.cb] 86 :: blk gw #[.int .i64 w] 3 :: C.X t g :: cs)) (by kernel_rfl) (by kernel_rfl) (fun d _ _ _ _ h => by cases d <;> exact h) (fun W h => h.drew) hp ?_
          refine preI_nil ?_
          intro W_33 hp
          refine treeI_rd rfl ?_
          refine sxq_val 32 (.int .i64 (i : Int)) (by rfl) (fun W hp => (ld1 (t := 3) (p := (.tmp 7)) (by rfl) (by rfl) (by kernel_rfl) (hp.cell 0 (by rfl) 0 _ (by rfl)))) ?_
          refine sxq_nil ?_
          refine treeI_rd rfl ?_
          refine sxq_val 33 (.int .i64 w) (by rfl) (fun W hp => (ld1 (t := 3) (p := (.tmp 6)) (by rfl) (by rfl) (by kernel_rfl) (hp.cell 7 (by rfl) 0 _ (by rfl)))) ?_
          refine sxq_nil ?_
          refine treeI_rd rfl ?_
          refine sxq_val 34 (.int .i64 ((i : Int) % w)) (by rfl) (fun W hp => (rem_run (by rfl) (by rfl) (by rfl) (by omega) (by omega))) ?_
          refine sxq_nil ?_
          refine treeI_rd rfl ?_
          refine sxq_val 35 (.int .i64 w) (by rfl) (fun W hp => (ld1 (t := 3) (p := (.tmp 6)) (by rfl) (by rfl) (by kernel_rfl) (hp.cell 7 (by rfl) 0 _ (by rfl)))) ?_
          refine sxq_nil ?_
          refine treeI_rd rfl ?_
          refine sxq_val 36 (.int .i64 (w - 1)) (by rfl) (fun W hp => (wr_ok (by omega) (by kernel_rfl))) ?_
          refine sxq_nil ?_
          refine treeI_rd rfl ?_
          refine sxq_val 37 (.bool true) (by rfl) (fun W hp => (bv c_31 (by kernel_rfl))) ?_
          refine sxq_nil ?_
          refine treeI_rd rfl ?_
          refine sxq_val 38 (.bool true) (by rfl) (fun W hp => (by kernel_rfl)) ?_
          refine sxq_nil ?_
          refine treeI_rd rfl ?_
          refine sxq_want (by rfl) ?_
          refine sxq_val 39 (.slice (some ⟨gL, 0, none⟩) n cL) (by rfl) (fun W hp => (ld1 (t := 49) (p := (.tmp 1)) (by rfl) (by rfl) (by kernel_rfl) (hp.cell 1 (by rfl) 0 _ (by rfl)))) ?_
          refine sxq_nil ?_
          refine treeI_rd rfl ?_
          refine sxq_want (by rfl) ?_
          refine sxq_val 40 (.int .i64 (i : Int)) (by rfl) (fun W hp => (ld1 (t := 3) (p := (.tmp 7)) (by rfl) (by rfl) (by kernel_rfl) (hp.cell 0 (by rfl) 0 _ (by rfl)))) ?_
          refine sxq_nil ?_
          refine treeI_rd rfl ?_
          refine sxq_want (by rfl) ?_
          refine sxq_val 41 (.int .i64 ((i : Int) + 1)) (by rfl) (fun W hp => (wr_ok (by omega) (by kernel_rfl))) ?_
          refine sxq_nil ?_
          refine treeI_rd rfl ?_
          refine sxq_want (by rfl) ?_
          refine sxq_val 42 (.pointer (some (adr (some ⟨gL, 0, none⟩) ((i : Int) + 1) 1))) (by rfl) (fun W hp => (ix_run (d := (Kd.int .u8)) (row_Cn (hp.at_ 2 _ (by rfl))) (t := 49) (by rfl) (by rfl) (by rfl) Tryz.underlying49 (by kernel_rfl) (by omega) (by omega))) ?_
          refine sxq_nil ?_
          refine treeI_rd rfl ?_
          refine sxq_want (by rfl) ?_
          refine sxq_val 43 (.int .u8 (rd b ((i : Int) + 1))) (by rfl) (fun W hp => (ld1 (t := 5) (p := (.tmp 42)) (by rfl) (by rfl) (by kernel_rfl) (el_cell (d := (Kd.int .u8)) (row_C (hp.at_ 2 _ (by rfl))) 0 ((i : Int) + 1) (by omega) (by omega) (cells := [.int .u8 (rd b ((i : Int) + 1))]) (fun cs h => h) 0 _ (by rfl)))) ?_
          refine sxq_nil ?_
          refine treeI_rd rfl ?_
          refine sxq_want (by rfl) ?_
          refine sxq_val 44 (.bool true) (by rfl) (fun W hp => (bv c_32 (by kernel_rfl))) ?_
          refine sxq_nil ?_
          refine treeI_rd rfl ?_
          refine sxq_val 45 (.bool true) (by rfl) (fun W hp => (by kernel_rfl)) ?_
          refine sxq_nil ?_
          refine treeI_rd rfl ?_
          refine sxq_val 46 (.bool true) (by rfl) (fun W hp => (by kernel_rfl)) ?_
          refine sxq_nil ?_
          refine treeI_rd rfl ?_
          refine sxq_want (by rfl) ?_
          refine sxq_val 47 (.func (.func 82) #[] #[.pointer (some ⟨gt, 0, none⟩), .pointer (some ⟨g_1, 0, none⟩), .pointer (some ⟨gc, 0, none⟩), .pointer (some ⟨gl, 0, none⟩), .pointer (some ⟨gb, 0, none⟩)]) (by rfl) (fun W hp => (by kernel_rfl)) ?_
          refine sxq_nil ?_
          refine treeI_rd rfl ?_
          refine sxq_want (by rfl) ?_
          refine sxq_val 48 (.int .i64 (i : Int)) (by rfl) (fun W hp => (ld1 (t := 3) (p := (.tmp 7)) (by rfl) (by rfl) (by kernel_rfl) (hp.cell 0 (by rfl) 0 _ (by rfl)))) ?_
          refine sxq_nil ?_
          refine treeI_rd rfl ?_
          refine sxq_want (by rfl) ?_
          refine sxq_val 49 (.int .i64 ((i : Int) + 1)) (by rfl) (fun W hp => (wr_ok (by omega) (by kernel_rfl))) ?_
          refine sxq_nil ?_
          refine treeI_fin ?_
          refine tail_of [18, 19, 20] (by rfl) ?_
          refine tailI_op rfl ?_
          refine sx_want (by rfl) ?_
          refine sx_call 50 (by rfl) (by kernel_rfl) (((hT _ (cs) gL gc ge gt gl gb gw w h b g_1 i (i + 1) 101 119 cL FL t g (cst d + 3 + q) hw1 hw2 hwh hn hbn (by omega) hfree (by omega) (by omega) (by simpa using c_32) (by omega) (by omega) hinv2 hB (by omega) (by omega) (hok.mono _ _ _ _ (by first | omega | (simp only [cst]; omega)) hiv) (hp.take [0, 1, 2, 3, 4, 5, 6, 7, 8] 9 (by decide) (by simp)))).mono ?_)
          rintro _ W_34 ⟨FT1, g1, rfl, hi1, hp⟩
          refine ⟨_, rfl, ?_⟩
          refine tailI_next ?_
          refine tailI_op rfl ?_
          refine sx_want (by rfl) ?_
          refine sx_rd 51 (.bool (!((tryG C.S (layG C.S w n d) b i (i + 1) 101 119 t).1))) (by rfl) (by kernel_rfl) ?_
          refine tailI_next ?_
          refine tailI_op rfl ?_
          refine sx_rd 52 (.bool (!((tryG C.S (layG C.S w n d) b i (i + 1) 101 119 t).1))) (by rfl) (by kernel_rfl) ?_
          refine tailI_next ?_
          refine tailI_nil ?_
          refine ex_then_n ?_
          refine sx_cond (!((tryG C.S (layG C.S w n d) b i (i + 1) 101 119 t).1)) (by rfl) (fun c_35 => ?_) (fun c_35 => ?_)
          ·
            refine wp_seq ?_
            refine sx_region ?_
            refine sx_rd 8 (.bool false) (by rfl) (by kernel_rfl) ?_
            refine sx_nil ?_
            refine ex_then_n ?_
            refine wp_ret ?_
            refine ex_then_r ?_
            refine sx_end (.bool false) (res1 8 (by rfl)) ?_
            have hff : ffN b a = i := ffN_hit hai (by omega) hsk hfree
            have hL : layG C.S w n (d + 1) b a t = (false, (tryG C.S (layG C.S w n d) b i (i + 1) 101 119 t).2) := by rw [layG_go hff (by omega), east_yes (by omega) (by have q := c_32; simpa using q), if_neg (by rw [(show ((tryG C.S (layG C.S w n d) b i (i + 1) 101 119 t).1) = false from (not_eq c_35))]; simp)]
            rw [hL]
            exact ⟨_, _, rfl, hok.mono _ _ _ _ (by omega) hi1, (hp.take [1, 2, 3, 4, 5, 6, 7, 8] 9 (by decide) (by simp))⟩
          ·
            refine wp_skip ?_
            refine ex_then_n ?_
            refine wp_seq ?_
            refine wp_seq ?_
            refine sx_region ?_
            refine sx_rd 53 (.int .i64 (i : Int)) (by rfl) (ld1 (t := 3) (p := (.tmp 7)) (by rfl) (by rfl) (by kernel_rfl) (hp.cell 0 (by rfl) 0 _ (by rfl))) ?_
            refine sx_rd 54 (.int .i64 w) (by rfl) (ld1 (t := 3) (p := (.tmp 6)) (by rfl) (by rfl) (by kernel_rfl) (hp.cell 7 (by rfl) 0 _ (by rfl))) ?_
            refine sx_rd 55 (.int .i64 ((i : Int) + w)) (by rfl) (wr_ok (by omega) (by kernel_rfl)) ?_
            refine sx_rd 10 (.int .i64 ((i : Int) + w)) (by rfl) (by kernel_rfl) ?_
            refine sx_nil ?_
            refine ex_then_n ?_
            refine wp_seq ?_
            rcases Bool.eq_false_or_eq_true (decide (((i : Int) + w) < (n : Int))) with c_36 | c_36
            ·
              have c_36p := of_decide_eq_true c_36
              refine sx_region ?_
              refine sx_rd 56 (.int .i64 ((i : Int) + w)) (by rfl) (by kernel_rfl) ?_
              refine sx_rd 57 (.slice (some ⟨gL, 0, none⟩) n cL) (by rfl) (ld1 (t := 49) (p := (.tmp 1)) (by rfl) (by rfl) (by kernel_rfl) (hp.cell 1 (by rfl) 0 _ (by rfl))) ?_
              refine sx_rd 58 (.int .i64 (n : Int)) (by rfl) (by kernel_rfl) ?_
              refine sx_rd 59 (.bool true) (by rfl) (bv c_36 (by kernel_rfl)) ?_
              refine sx_rd 60 (.bool true) (by rfl) (by kernel_rfl) ?_
              refine sx_want (by rfl) ?_
              refine sx_rd 61 (.func (.func 82) #[] #[.pointer (some ⟨gt, 0, none⟩), .pointer (some ⟨g_1, 0, none⟩), .pointer (some ⟨gc, 0, none⟩), .pointer (some ⟨gl, 0, none⟩), .pointer (some ⟨gb, 0, none⟩)]) (by rfl) (by kernel_rfl) ?_
              refine sx_want (by rfl) ?_
              refine sx_rd 62 (.int .i64 ((i : Int) + w)) (by rfl) (by kernel_rfl) ?_
              refine sx_want (by rfl) ?_
              have hJ : ((((i : Int) + w).toNat : Nat) : Int) = (i : Int) + w := Int.toNat_of_nonneg (by omega)
              have hq_37 := (hT _ (cs) gL gc ge gt gl gb gw w h b g_1 i ((i : Int) + w).toNat 115 110 cL FT1 ((tryG C.S (layG C.S w n d) b i (i + 1) 101 119 t).2) g1 q hw1 hw2 hwh hn hbn (by omega) hfree (by omega) (by omega) (by rw [hJ]; have q := hinv2 ((i : Int) + w).toNat (by omega) (by omega); rw [hJ] at q; exact q) (by omega) (by omega) hinv2 hB (by omega) (by omega) (hok.mono _ _ _ _ (by first | omega | (simp only [cst]; omega)) hi1) (hp.take [0, 1, 2, 3, 4, 5, 6, 7, 8] 9 (by decide) (by simp)))
              rw [hJ] at hq_37
              refine sx_call 63 (by rfl) (by kernel_rfl) ((hq_37).mono ?_)
              rintro _ W_38 ⟨FT2, g2, rfl, hi2, hp⟩
              refine ⟨_, rfl, ?_⟩
              refine sx_want (by rfl) ?_
              refine sx_rd 64 (.bool (!((tryG C.S (layG C.S w n d) b i ((i : Int) + w).toNat 115 110 ((tryG C.S (layG C.S w n d) b i (i + 1) 101 119 t).2)).1))) (by rfl) (by kernel_rfl) ?_
              refine sx_rd 65 (.bool (!((tryG C.S (layG C.S w n d) b i ((i : Int) + w).toNat 115 110 ((tryG C.S (layG C.S w n d) b i (i + 1) 101 119 t).2)).1))) (by rfl) (by kernel_rfl) ?_
              refine sx_nil ?_
              refine ex_then_n ?_
              refine sx_cond (!((tryG C.S (layG C.S w n d) b i ((i : Int) + w).toNat 115 110 ((tryG C.S (layG C.S w n d) b i (i + 1) 101 119 t).2)).1)) (by rfl) (fun c_39 => ?_) (fun c_39 => ?_)
              ·
                refine wp_seq ?_
                refine sx_region ?_
                refine sx_rd 8 (.bool false) (by rfl) (by kernel_rfl) ?_
                refine sx_nil ?_
                refine ex_then_n ?_
                refine wp_ret ?_
                refine ex_then_r ?_
                refine sx_end (.bool false) (res1 8 (by rfl)) ?_
                have hff : ffN b a = i := ffN_hit hai (by omega) hsk hfree
                have hL : layG C.S w n (d + 1) b a t = (false, (tryG C.S (layG C.S w n d) b i ((i : Int) + w).toNat 115 110 ((tryG C.S (layG C.S w n d) b i (i + 1) 101 119 t).2)).2) := by rw [layG_go hff (by omega), east_yes (by omega) (by have q := c_32; simpa using q), if_pos (show ((tryG C.S (layG C.S w n d) b i (i + 1) 101 119 t).1) = true from (not_eq c_35)), south_yes (by omega)]; exact Prod.ext (show ((tryG C.S (layG C.S w n d) b i ((i : Int) + w).toNat 115 110 ((tryG C.S (layG C.S w n d) b i (i + 1) 101 119 t).2)).1) = false from (not_eq c_39)) rfl
                rw [hL]
                exact ⟨_, _, rfl, hok.mono _ _ _ _ (by omega) hi2, (hp.take [1, 2, 3, 4, 5, 6, 7, 8] 9 (by decide) (by simp))⟩
              ·
                refine wp_skip ?_
                refine ex_then_n ?_
                refine wp_seq ?_
                refine sx_region ?_
                refine sx_rd 8 (.bool true) (by rfl) (by kernel_rfl) ?_
                refine sx_nil ?_
                refine ex_then_n ?_
                refine wp_ret ?_
                refine sx_end (.bool true) (res1 8 (by rfl)) ?_
                have hff : ffN b a = i := ffN_hit hai (by omega) hsk hfree
                have hL : layG C.S w n (d + 1) b a t = (true, (tryG C.S (layG C.S w n d) b i ((i : Int) + w).toNat 115 110 ((tryG C.S (layG C.S w n d) b i (i + 1) 101 119 t).2)).2) := by rw [layG_go hff (by omega), east_yes (by omega) (by have q := c_32; simpa using q), if_pos (show ((tryG C.S (layG C.S w n d) b i (i + 1) 101 119 t).1) = true from (not_eq c_35)), south_yes (by omega)]; exact Prod.ext (show ((tryG C.S (layG C.S w n d) b i ((i : Int) + w).toNat 115 110 ((tryG C.S (layG C.S w n d) b i (i + 1) 101 119 t).2)).1) = true from (not_eq c_39)) rfl
                rw [hL]
                exact ⟨_, _, rfl, hok.mono _ _ _ _ (by omega) hi2, (hp.take [1, 2, 3, 4, 5, 6, 7, 8] 9 (by decide) (by simp))⟩
            ·
              have c_36p := of_decide_eq_false c_36
              refine sx_region ?_
              refine sx_rd 56 (.int .i64 ((i : Int) + w)) (by rfl) (by kernel_rfl) ?_
              refine sx_rd 57 (.slice (some ⟨gL, 0, none⟩) n cL) (by rfl) (ld1 (t := 49) (p := (.tmp 1)) (by rfl) (by rfl) (by kernel_rfl) (hp.cell 1 (by rfl) 0 _ (by rfl))) ?_
              refine sx_rd 58 (.int .i64 (n : Int)) (by rfl) (by kernel_rfl) ?_
              refine sx_rd 59 (.bool false) (by rfl) (bv c_36 (by kernel_rfl)) ?_
              refine sx_rd 60 (.bool false) (by rfl) (by kernel_rfl) ?_
              refine sx_skip 61 (by rfl) (by rfl) (by rfl) ?_
              refine sx_skip 62 (by rfl) (by rfl) (by rfl) ?_
              refine sx_skip 63 (by rfl) (by rfl) (by rfl) ?_
              refine sx_skip 64 (by rfl) (by rfl) (by rfl) ?_
              refine sx_rd 65 (.bool false) (by rfl) (by kernel_rfl) ?_
              refine sx_nil ?_
              refine ex_then_n ?_
              refine sx_else false (by rfl) rfl ?_
              refine wp_skip ?_
              refine ex_then_n ?_
              refine wp_seq ?_
              refine sx_region ?_
              refine sx_rd 8 (.bool true) (by rfl) (by kernel_rfl) ?_
              refine sx_nil ?_
              refine ex_then_n ?_
              refine wp_ret ?_
              refine sx_end (.bool true) (res1 8 (by rfl)) ?_
              have hff : ffN b a = i := ffN_hit hai (by omega) hsk hfree
              have hL : layG C.S w n (d + 1) b a t = (true, (tryG C.S (layG C.S w n d) b i (i + 1) 101 119 t).2) := by rw [layG_go hff (by omega), east_yes (by omega) (by have q := c_32; simpa using q), if_pos (show ((tryG C.S (layG C.S w n d) b i (i + 1) 101 119 t).1) = true from (not_eq c_35)), south_no (by omega)]
              rw [hL]
              exact ⟨_, _, rfl, hok.mono _ _ _ _ (by omega) hi1, (hp.take [1, 2, 3, 4, 5, 6, 7, 8] 9 (by decide) (by simp))⟩
        ·
          have c_32p := ne_of_beq_ c_32
          refine sx_drawT [] (.rd 0 (.rd 1 (.rd 2 (.rd 3 (.rd 4 (.rd 5 (.rd 6 (.rd 7 (.rd 8 (.rd 9 (.rd 10 (.rd 11 (.rd 12 (.rd 13 (.rd 14 (.rd 15 (.rd 16 (.rd 17 (.alt 18 (.rd 19 (.rd 20 (.fin))) .non))))))))))))))))))) 21 (C := Hp w0 (blk g_1 #[.int .i64 (i : Int)] 3 :: blk gc #[.slice (some ⟨gL, 0, none⟩) n cL] 49 :: row (Kd.int .u8) 5 w0.heap.size (.slice (some ⟨gL, 0, none⟩) n cL) b FL :: blk ge #[.func (.func C.fe) #[] C.ce] 87 :: blk gt #[.func (.func C.ft) #[] C.ct] 84 :: blk gl #[.func (.func 81) #[] #[.pointer (some ⟨gc, 0, none⟩), .pointer (some ⟨ge, 0, none⟩), .pointer (some ⟨gt, 0, none⟩), .pointer (some ⟨gl, 0, none⟩), .pointer (some ⟨gb, 0, none⟩), .pointer (some ⟨gw, 0, none⟩)]] 102 :: blk gb #[.func (.func C.fb) #[] C.cb] 86 :: blk gw #[.int .i64 w] 3 :: C.X t g :: cs)) (by kernel_rfl) (by kernel_rfl) (fun d _ _ _ _ h => by cases d <;> exact h) (fun W h => h.drew) hp ?_
          refine preI_nil ?_
          intro W_40 hp
          refine treeI_rd rfl ?_
          refine sxq_val 32 (.int .i64 (i : Int)) (by rfl) (fun W hp => (ld1 (t := 3) (p := (.tmp 7)) (by rfl) (by rfl) (by kernel_rfl) (hp.cell 0 (by rfl) 0 _ (by rfl)))) ?_
          refine sxq_nil ?_
          refine treeI_rd rfl ?_
          refine sxq_val 33 (.int .i64 w) (by rfl) (fun W hp => (ld1 (t := 3) (p := (.tmp 6)) (by rfl) (by rfl) (by kernel_rfl) (hp.cell 7 (by rfl) 0 _ (by rfl)))) ?_
          refine sxq_nil ?_
          refine treeI_rd rfl ?_
          refine sxq_val 34 (.int .i64 ((i : Int) % w)) (by rfl) (fun W hp => (rem_run (by rfl) (by rfl) (by rfl) (by omega) (by omega))) ?_
          refine sxq_nil ?_
          refine treeI_rd rfl ?_
          refine sxq_val 35 (.int .i64 w) (by rfl) (fun W hp => (ld1 (t := 3) (p := (.tmp 6)) (by rfl) (by rfl) (by kernel_rfl) (hp.cell 7 (by rfl) 0 _ (by rfl)))) ?_
          refine sxq_nil ?_
          refine treeI_rd rfl ?_
          refine sxq_val 36 (.int .i64 (w - 1)) (by rfl) (fun W hp => (wr_ok (by omega) (by kernel_rfl))) ?_
          refine sxq_nil ?_
          refine treeI_rd rfl ?_
          refine sxq_val 37 (.bool true) (by rfl) (fun W hp => (bv c_31 (by kernel_rfl))) ?_
          refine sxq_nil ?_
          refine treeI_rd rfl ?_
          refine sxq_val 38 (.bool true) (by rfl) (fun W hp => (by kernel_rfl)) ?_
          refine sxq_nil ?_
          refine treeI_rd rfl ?_
          refine sxq_want (by rfl) ?_
          refine sxq_val 39 (.slice (some ⟨gL, 0, none⟩) n cL) (by rfl) (fun W hp => (ld1 (t := 49) (p := (.tmp 1)) (by rfl) (by rfl) (by kernel_rfl) (hp.cell 1 (by rfl) 0 _ (by rfl)))) ?_
          refine sxq_nil ?_
          refine treeI_rd rfl ?_
          refine sxq_want (by rfl) ?_
          refine sxq_val 40 (.int .i64 (i : Int)) (by rfl) (fun W hp => (ld1 (t := 3) (p := (.tmp 7)) (by rfl) (by rfl) (by kernel_rfl) (hp.cell 0 (by rfl) 0 _ (by rfl)))) ?_
          refine sxq_nil ?_
          refine treeI_rd rfl ?_
          refine sxq_want (by rfl) ?_
          refine sxq_val 41 (.int .i64 ((i : Int) + 1)) (by rfl) (fun W hp => (wr_ok (by omega) (by kernel_rfl))) ?_
          refine sxq_nil ?_
          refine treeI_rd rfl ?_
          refine sxq_want (by rfl) ?_
          refine sxq_val 42 (.pointer (some (adr (some ⟨gL, 0, none⟩) ((i : Int) + 1) 1))) (by rfl) (fun W hp => (ix_run (d := (Kd.int .u8)) (row_Cn (hp.at_ 2 _ (by rfl))) (t := 49) (by rfl) (by rfl) (by rfl) Tryz.underlying49 (by kernel_rfl) (by omega) (by omega))) ?_
          refine sxq_nil ?_
          refine treeI_rd rfl ?_
          refine sxq_want (by rfl) ?_
          refine sxq_val 43 (.int .u8 (rd b ((i : Int) + 1))) (by rfl) (fun W hp => (ld1 (t := 5) (p := (.tmp 42)) (by rfl) (by rfl) (by kernel_rfl) (el_cell (d := (Kd.int .u8)) (row_C (hp.at_ 2 _ (by rfl))) 0 ((i : Int) + 1) (by omega) (by omega) (cells := [.int .u8 (rd b ((i : Int) + 1))]) (fun cs h => h) 0 _ (by rfl)))) ?_
          refine sxq_nil ?_
          refine treeI_rd rfl ?_
          refine sxq_want (by rfl) ?_
          refine sxq_val 44 (.bool false) (by rfl) (fun W hp => (bv c_32 (by kernel_rfl))) ?_
          refine sxq_nil ?_
          refine treeI_rd rfl ?_
          refine sxq_val 45 (.bool false) (by rfl) (fun W hp => (by kernel_rfl)) ?_
          refine sxq_nil ?_
          refine treeI_rd rfl ?_
          refine sxq_val 46 (.bool false) (by rfl) (fun W hp => (by kernel_rfl)) ?_
          refine sxq_nil ?_
          refine treeI_rd rfl ?_
          refine sxq_skip 47 (by rfl) (by rfl) (by rfl) ?_
          refine sxq_nil ?_
          refine treeI_rd rfl ?_
          refine sxq_skip 48 (by rfl) (by rfl) (by rfl) ?_
          refine sxq_nil ?_
          refine treeI_rd rfl ?_
          refine sxq_skip 49 (by rfl) (by rfl) (by rfl) ?_
          refine sxq_nil ?_
          refine treeI_ev rfl ?_
          refine sx_skip 50 (by rfl) (by rfl) (by rfl) ?_
          refine step_fin hp ?_
          refine treeI_rd rfl ?_
          refine sxq_skip 51 (by rfl) (by rfl) (by rfl) ?_
          refine sxq_nil ?_
          refine treeI_rd rfl ?_
          refine sxq_val 52 (.bool false) (by rfl) (fun W hp => (by kernel_rfl)) ?_
          refine sxq_nil ?_
          refine treeI_fin ?_
          refine sx_nil ?_
          refine ex_then_n ?_
          refine sx_else false (by rfl) rfl ?_
          refine wp_skip ?_
          refine ex_then_n ?_
          refine wp_seq ?_
          refine wp_seq ?_
          refine sx_region ?_
          refine sx_rd 53 (.int .i64 (i : Int)) (by rfl) (ld1 (t := 3) (p := (.tmp 7)) (by rfl) (by rfl) (by kernel_rfl) (hp.cell 0 (by rfl) 0 _ (by rfl))) ?_
          refine sx_rd 54 (.int .i64 w) (by rfl) (ld1 (t := 3) (p := (.tmp 6)) (by rfl) (by rfl) (by kernel_rfl) (hp.cell 7 (by rfl) 0 _ (by rfl))) ?_
          refine sx_rd 55 (.int .i64 ((i : Int) + w)) (by rfl) (wr_ok (by omega) (by kernel_rfl)) ?_
          refine sx_rd 10 (.int .i64 ((i : Int) + w)) (by rfl) (by kernel_rfl) ?_
          refine sx_nil ?_
          refine ex_then_n ?_
          refine wp_seq ?_
          rcases Bool.eq_false_or_eq_true (decide (((i : Int) + w) < (n : Int))) with c_41 | c_41
          ·
            have c_41p := of_decide_eq_true c_41
            refine sx_region ?_
            refine sx_rd 56 (.int .i64 ((i : Int) + w)) (by rfl) (by kernel_rfl) ?_
            refine sx_rd 57 (.slice (some ⟨gL, 0, none⟩) n cL) (by rfl) (ld1 (t := 49) (p := (.tmp 1)) (by rfl) (by rfl) (by kernel_rfl) (hp.cell 1 (by rfl) 0 _ (by rfl))) ?_
            refine sx_rd 58 (.int .i64 (n : Int)) (by rfl) (by kernel_rfl) ?_
            refine sx_rd 59 (.bool true) (by rfl) (bv c_41 (by kernel_rfl)) ?_
            refine sx_rd 60 (.bool true) (by rfl) (by kernel_rfl) ?_
            refine sx_want (by rfl) ?_
            refine sx_rd 61 (.func (.func 82) #[] #[.pointer (some ⟨gt, 0, none⟩), .pointer (some ⟨g_1, 0, none⟩), .pointer (some ⟨gc, 0, none⟩), .pointer (some ⟨gl, 0, none⟩), .pointer (some ⟨gb, 0, none⟩)]) (by rfl) (by kernel_rfl) ?_
            refine sx_want (by rfl) ?_
            refine sx_rd 62 (.int .i64 ((i : Int) + w)) (by rfl) (by kernel_rfl) ?_
            refine sx_want (by rfl) ?_
            have hJ : ((((i : Int) + w).toNat : Nat) : Int) = (i : Int) + w := Int.toNat_of_nonneg (by omega)
            have hq_42 := (hT _ (cs) gL gc ge gt gl gb gw w h b g_1 i ((i : Int) + w).toNat 115 110 cL FL t g q hw1 hw2 hwh hn hbn (by omega) hfree (by omega) (by omega) (by rw [hJ]; have q := hinv2 ((i : Int) + w).toNat (by omega) (by omega); rw [hJ] at q; exact q) (by omega) (by omega) hinv2 hB (by omega) (by omega) (hok.mono _ _ _ _ (by first | omega | (simp only [cst]; omega)) hiv) (hp.take [0, 1, 2, 3, 4, 5, 6, 7, 8] 9 (by decide) (by simp)))
            rw [hJ] at hq_42
            refine sx_call 63 (by rfl) (by kernel_rfl) ((hq_42).mono ?_)
            rintro _ W_43 ⟨FT2, g2, rfl, hi2, hp⟩
            refine ⟨_, rfl, ?_⟩
            refine sx_want (by rfl) ?_
            refine sx_rd 64 (.bool (!((tryG C.S (layG C.S w n d) b i ((i : Int) + w).toNat 115 110 t).1))) (by rfl) (by kernel_rfl) ?_
            refine sx_rd 65 (.bool (!((tryG C.S (layG C.S w n d) b i ((i : Int) + w).toNat 115 110 t).1))) (by rfl) (by kernel_rfl) ?_
            refine sx_nil ?_
            refine ex_then_n ?_
            refine sx_cond (!((tryG C.S (layG C.S w n d) b i ((i : Int) + w).toNat 115 110 t).1)) (by rfl) (fun c_44 => ?_) (fun c_44 => ?_)
            ·
              refine wp_seq ?_
              refine sx_region ?_
              refine sx_rd 8 (.bool false) (by rfl) (by kernel_rfl) ?_
              refine sx_nil ?_
              refine ex_then_n ?_
              refine wp_ret ?_
              refine ex_then_r ?_
              refine sx_end (.bool false) (res1 8 (by rfl)) ?_
              have hff : ffN b a = i := ffN_hit hai (by omega) hsk hfree
              have hL : layG C.S w n (d + 1) b a t = (false, (tryG C.S (layG C.S w n d) b i ((i : Int) + w).toNat 115 110 t).2) := by rw [layG_go hff (by omega), east_full (by have q := c_32; simpa using q), if_pos rfl, south_yes (by omega)]; exact Prod.ext (show ((tryG C.S (layG C.S w n d) b i ((i : Int) + w).toNat 115 110 t).1) = false from (not_eq c_44)) rfl
              rw [hL]
              exact ⟨_, _, rfl, hok.mono _ _ _ _ (by omega) hi2, (hp.take [1, 2, 3, 4, 5, 6, 7, 8] 9 (by decide) (by simp))⟩
            ·
              refine wp_skip ?_
              refine ex_then_n ?_
              refine wp_seq ?_
              refine sx_region ?_
              refine sx_rd 8 (.bool true) (by rfl) (by kernel_rfl) ?_
              refine sx_nil ?_
              refine ex_then_n ?_
              refine wp_ret ?_
              refine sx_end (.bool true) (res1 8 (by rfl)) ?_
              have hff : ffN b a = i := ffN_hit hai (by omega) hsk hfree
              have hL : layG C.S w n (d + 1) b a t = (true, (tryG C.S (layG C.S w n d) b i ((i : Int) + w).toNat 115 110 t).2) := by rw [layG_go hff (by omega), east_full (by have q := c_32; simpa using q), if_pos rfl, south_yes (by omega)]; exact Prod.ext (show ((tryG C.S (layG C.S w n d) b i ((i : Int) + w).toNat 115 110 t).1) = true from (not_eq c_44)) rfl
              rw [hL]
              exact ⟨_, _, rfl, hok.mono _ _ _ _ (by omega) hi2, (hp.take [1, 2, 3, 4, 5, 6, 7, 8] 9 (by decide) (by simp))⟩
          ·
            have c_41p := of_decide_eq_false c_41
            refine sx_region ?_
            refine sx_rd 56 (.int .i64 ((i : Int) + w)) (by rfl) (by kernel_rfl) ?_
            refine sx_rd 57 (.slice (some ⟨gL, 0, none⟩) n cL) (by rfl) (ld1 (t := 49) (p := (.tmp 1)) (by rfl) (by rfl) (by kernel_rfl) (hp.cell 1 (by rfl) 0 _ (by rfl))) ?_
            refine sx_rd 58 (.int .i64 (n : Int)) (by rfl) (by kernel_rfl) ?_
            refine sx_rd 59 (.bool false) (by rfl) (bv c_41 (by kernel_rfl)) ?_
            refine sx_rd 60 (.bool false) (by rfl) (by kernel_rfl) ?_
            refine sx_skip 61 (by rfl) (by rfl) (by rfl) ?_
            refine sx_skip 62 (by rfl) (by rfl) (by rfl) ?_
            refine sx_skip 63 (by rfl) (by rfl) (by rfl) ?_
            refine sx_skip 64 (by rfl) (by rfl) (by rfl) ?_
            refine sx_rd 65 (.bool false) (by rfl) (by kernel_rfl) ?_
            refine sx_nil ?_
            refine ex_then_n ?_
            refine sx_else false (by rfl) rfl ?_
            refine wp_skip ?_
            refine ex_then_n ?_
            refine wp_seq ?_
            refine sx_region ?_
            refine sx_rd 8 (.bool true) (by rfl) (by kernel_rfl) ?_
            refine sx_nil ?_
            refine ex_then_n ?_
            refine wp_ret ?_
            refine sx_end (.bool true) (res1 8 (by rfl)) ?_
            have hff : ffN b a = i := ffN_hit hai (by omega) hsk hfree
            have hL : layG C.S w n (d + 1) b a t = (true, t) := by rw [layG_go hff (by omega), east_full (by have q := c_32; simpa using q), if_pos rfl, south_no (by omega)]
            rw [hL]
            exact ⟨_, _, rfl, hok.mono _ _ _ _ (by simp only [cst]; omega) hiv, (hp.take [1, 2, 3, 4, 5, 6, 7, 8] 9 (by decide) (by simp))⟩
      ·
        have c_31p := of_decide_eq_false c_31
        refine sx_drawT [] (.rd 0 (.rd 1 (.rd 2 (.rd 3 (.rd 4 (.rd 5 (.rd 6 (.rd 7 (.rd 8 (.rd 9 (.rd 10 (.rd 11 (.rd 12 (.rd 13 (.rd 14 (.rd 15 (.rd 16 (.rd 17 (.alt 18 (.rd 19 (.rd 20 (.fin))) .non))))))))))))))))))) 21 (C := Hp w0 (blk g_1 #[.int .i64 (i : Int)] 3 :: blk gc #[.slice (some ⟨gL, 0, none⟩) n cL] 49 :: row (Kd.int .u8) 5 w0.heap.size (.slice (some ⟨gL, 0, none⟩) n cL) b FL :: blk ge #[.func (.func C.fe) #[] C.ce] 87 :: blk gt #[.func (.func C.ft) #[] C.ct] 84 :: blk gl #[.func (.func 81) #[] #[.pointer (some ⟨gc, 0, none⟩), .pointer (some ⟨ge, 0, none⟩), .pointer (some ⟨gt, 0, none⟩), .pointer (some ⟨gl, 0, none⟩), .pointer (some ⟨gb, 0, none⟩), .pointer (some ⟨gw, 0, none⟩)]] 102 :: blk gb #[.func (.func C.fb) #[] C.cb] 86 :: blk gw #[.int .i64 w] 3 :: C.X t g :: cs)) (by kernel_rfl) (by kernel_rfl) (fun d _ _ _ _ h => by cases d <;> exact h) (fun W h => h.drew) hp ?_
        refine preI_nil ?_
        intro W_45 hp
        refine treeI_rd rfl ?_
        refine sxq_val 32 (.int .i64 (i : Int)) (by rfl) (fun W hp => (ld1 (t := 3) (p := (.tmp 7)) (by rfl) (by rfl) (by kernel_rfl) (hp.cell 0 (by rfl) 0 _ (by rfl)))) ?_
        refine sxq_nil ?_
        refine treeI_rd rfl ?_
        refine sxq_val 33 (.int .i64 w) (by rfl) (fun W hp => (ld1 (t := 3) (p := (.tmp 6)) (by rfl) (by rfl) (by kernel_rfl) (hp.cell 7 (by rfl) 0 _ (by rfl)))) ?_
        refine sxq_nil ?_
        refine treeI_rd rfl ?_
        refine sxq_val 34 (.int .i64 ((i : Int) % w)) (by rfl) (fun W hp => (rem_run (by rfl) (by rfl) (by rfl) (by omega) (by omega))) ?_
        refine sxq_nil ?_
        refine treeI_rd rfl ?_
        refine sxq_val 35 (.int .i64 w) (by rfl) (fun W hp => (ld1 (t := 3) (p := (.tmp 6)) (by rfl) (by rfl) (by kernel_rfl) (hp.cell 7 (by rfl) 0 _ (by rfl)))) ?_
        refine sxq_nil ?_
        refine treeI_rd rfl ?_
        refine sxq_val 36 (.int .i64 (w - 1)) (by rfl) (fun W hp => (wr_ok (by omega) (by kernel_rfl))) ?_
        refine sxq_nil ?_
        refine treeI_rd rfl ?_
        refine sxq_val 37 (.bool false) (by rfl) (fun W hp => (bv c_31 (by kernel_rfl))) ?_
        refine sxq_nil ?_
        refine treeI_rd rfl ?_
        refine sxq_val 38 (.bool false) (by rfl) (fun W hp => (by kernel_rfl)) ?_
        refine sxq_nil ?_
        refine treeI_rd rfl ?_
        refine sxq_skip 39 (by rfl) (by rfl) (by rfl) ?_
        refine sxq_nil ?_
        refine treeI_rd rfl ?_
        refine sxq_skip 40 (by rfl) (by rfl) (by rfl) ?_
        refine sxq_nil ?_
        refine treeI_rd rfl ?_
        refine sxq_skip 41 (by rfl) (by rfl) (by rfl) ?_
        refine sxq_nil ?_
        refine treeI_rd rfl ?_
        refine sxq_skip 42 (by rfl) (by rfl) (by rfl) ?_
        refine sxq_nil ?_
        refine treeI_rd rfl ?_
        refine sxq_skip 43 (by rfl) (by rfl) (by rfl) ?_
        refine sxq_nil ?_
        refine treeI_rd rfl ?_
        refine sxq_skip 44 (by rfl) (by rfl) (by rfl) ?_
        refine sxq_nil ?_
        refine treeI_rd rfl ?_
        refine sxq_val 45 (.bool false) (by rfl) (fun W hp => (by kernel_rfl)) ?_
        refine sxq_nil ?_
        refine treeI_rd rfl ?_
        refine sxq_val 46 (.bool false) (by rfl) (fun W hp => (by kernel_rfl)) ?_
        refine sxq_nil ?_
        refine treeI_rd rfl ?_
        refine sxq_skip 47 (by rfl) (by rfl) (by rfl) ?_
        refine sxq_nil ?_
        refine treeI_rd rfl ?_
        refine sxq_skip 48 (by rfl) (by rfl) (by rfl) ?_
        refine sxq_nil ?_
        refine treeI_rd rfl ?_
        refine sxq_skip 49 (by rfl) (by rfl) (by rfl) ?_
        refine sxq_nil ?_
        refine treeI_ev rfl ?_
        refine sx_skip 50 (by rfl) (by rfl) (by rfl) ?_
        refine step_fin hp ?_
        refine treeI_rd rfl ?_
        refine sxq_skip 51 (by rfl) (by rfl) (by rfl) ?_
        refine sxq_nil ?_
        refine treeI_rd rfl ?_
        refine sxq_val 52 (.bool false) (by rfl) (fun W hp => (by kernel_rfl)) ?_
        refine sxq_nil ?_
        refine treeI_fin ?_
        refine sx_nil ?_
        refine ex_then_n ?_
        refine sx_else false (by rfl) rfl ?_
        refine wp_skip ?_
        refine ex_then_n ?_
        refine wp_seq ?_
        refine wp_seq ?_
        refine sx_region ?_
        refine sx_rd 53 (.int .i64 (i : Int)) (by rfl) (ld1 (t := 3) (p := (.tmp 7)) (by rfl) (by rfl) (by kernel_rfl) (hp.cell 0 (by rfl) 0 _ (by rfl))) ?_
        refine sx_rd 54 (.int .i64 w) (by rfl) (ld1 (t := 3) (p := (.tmp 6)) (by rfl) (by rfl) (by kernel_rfl) (hp.cell 7 (by rfl) 0 _ (by rfl))) ?_
        refine sx_rd 55 (.int .i64 ((i : Int) + w)) (by rfl) (wr_ok (by omega) (by kernel_rfl)) ?_
        refine sx_rd 10 (.int .i64 ((i : Int) + w)) (by rfl) (by kernel_rfl) ?_
        refine sx_nil ?_
        refine ex_then_n ?_
        refine wp_seq ?_
        rcases Bool.eq_false_or_eq_true (decide (((i : Int) + w) < (n : Int))) with c_46 | c_46
        ·
          have c_46p := of_decide_eq_true c_46
          refine sx_region ?_
          refine sx_rd 56 (.int .i64 ((i : Int) + w)) (by rfl) (by kernel_rfl) ?_
          refine sx_rd 57 (.slice (some ⟨gL, 0, none⟩) n cL) (by rfl) (ld1 (t := 49) (p := (.tmp 1)) (by rfl) (by rfl) (by kernel_rfl) (hp.cell 1 (by rfl) 0 _ (by rfl))) ?_
          refine sx_rd 58 (.int .i64 (n : Int)) (by rfl) (by kernel_rfl) ?_
          refine sx_rd 59 (.bool true) (by rfl) (bv c_46 (by kernel_rfl)) ?_
          refine sx_rd 60 (.bool true) (by rfl) (by kernel_rfl) ?_
          refine sx_want (by rfl) ?_
          refine sx_rd 61 (.func (.func 82) #[] #[.pointer (some ⟨gt, 0, none⟩), .pointer (some ⟨g_1, 0, none⟩), .pointer (some ⟨gc, 0, none⟩), .pointer (some ⟨gl, 0, none⟩), .pointer (some ⟨gb, 0, none⟩)]) (by rfl) (by kernel_rfl) ?_
          refine sx_want (by rfl) ?_
          refine sx_rd 62 (.int .i64 ((i : Int) + w)) (by rfl) (by kernel_rfl) ?_
          refine sx_want (by rfl) ?_
          have hJ : ((((i : Int) + w).toNat : Nat) : Int) = (i : Int) + w := Int.toNat_of_nonneg (by omega)
          have hq_47 := (hT _ (cs) gL gc ge gt gl gb gw w h b g_1 i ((i : Int) + w).toNat 115 110 cL FL t g q hw1 hw2 hwh hn hbn (by omega) hfree (by omega) (by omega) (by rw [hJ]; have q := hinv2 ((i : Int) + w).toNat (by omega) (by omega); rw [hJ] at q; exact q) (by omega) (by omega) hinv2 hB (by omega) (by omega) (hok.mono _ _ _ _ (by first | omega | (simp only [cst]; omega)) hiv) (hp.take [0, 1, 2, 3, 4, 5, 6, 7, 8] 9 (by decide) (by simp)))
          rw [hJ] at hq_47
          refine sx_call 63 (by rfl) (by kernel_rfl) ((hq_47).mono ?_)
          rintro _ W_48 ⟨FT2, g2, rfl, hi2, hp⟩
          refine ⟨_, rfl, ?_⟩
          refine sx_want (by rfl) ?_
          refine sx_rd 64 (.bool (!((tryG C.S (layG C.S w n d) b i ((i : Int) + w).toNat 115 110 t).1))) (by rfl) (by kernel_rfl) ?_
          refine sx_rd 65 (.bool (!((tryG C.S (layG C.S w n d) b i ((i : Int) + w).toNat 115 110 t).1))) (by rfl) (by kernel_rfl) ?_
          refine sx_nil ?_
          refine ex_then_n ?_
          refine sx_cond (!((tryG C.S (layG C.S w n d) b i ((i : Int) + w).toNat 115 110 t).1)) (by rfl) (fun c_49 => ?_) (fun c_49 => ?_)
          ·
            refine wp_seq ?_
            refine sx_region ?_
            refine sx_rd 8 (.bool false) (by rfl) (by kernel_rfl) ?_
            refine sx_nil ?_
            refine ex_then_n ?_
            refine wp_ret ?_
            refine ex_then_r ?_
            refine sx_end (.bool false) (res1 8 (by rfl)) ?_
            have hff : ffN b a = i := ffN_hit hai (by omega) hsk hfree
            have hL : layG C.S w n (d + 1) b a t = (false, (tryG C.S (layG C.S w n d) b i ((i : Int) + w).toNat 115 110 t).2) := by rw [layG_go hff (by omega), east_no (by omega), if_pos rfl, south_yes (by omega)]; exact Prod.ext (show ((tryG C.S (layG C.S w n d) b i ((i : Int) + w).toNat 115 110 t).1) = false from (not_eq c_49)) rfl
            rw [hL]
            exact ⟨_, _, rfl, hok.mono _ _ _ _ (by omega) hi2, (hp.take [1, 2, 3, 4, 5, 6, 7, 8] 9 (by decide) (by simp))⟩
          ·
            refine wp_skip ?_
            refine ex_then_n ?_
            refine wp_seq ?_
            refine sx_region ?_
            refine sx_rd 8 (.bool true) (by rfl) (by kernel_rfl) ?_
            refine sx_nil ?_
            refine ex_then_n ?_
            refine wp_ret ?_
            refine sx_end (.bool true) (res1 8 (by rfl)) ?_
            have hff : ffN b a = i := ffN_hit hai (by omega) hsk hfree
            have hL : layG C.S w n (d + 1) b a t = (true, (tryG C.S (layG C.S w n d) b i ((i : Int) + w).toNat 115 110 t).2) := by rw [layG_go hff (by omega), east_no (by omega), if_pos rfl, south_yes (by omega)]; exact Prod.ext (show ((tryG C.S (layG C.S w n d) b i ((i : Int) + w).toNat 115 110 t).1) = true from (not_eq c_49)) rfl
            rw [hL]
            exact ⟨_, _, rfl, hok.mono _ _ _ _ (by omega) hi2, (hp.take [1, 2, 3, 4, 5, 6, 7, 8] 9 (by decide) (by simp))⟩
        ·
          have c_46p := of_decide_eq_false c_46
          refine sx_region ?_
          refine sx_rd 56 (.int .i64 ((i : Int) + w)) (by rfl) (by kernel_rfl) ?_
          refine sx_rd 57 (.slice (some ⟨gL, 0, none⟩) n cL) (by rfl) (ld1 (t := 49) (p := (.tmp 1)) (by rfl) (by rfl) (by kernel_rfl) (hp.cell 1 (by rfl) 0 _ (by rfl))) ?_
          refine sx_rd 58 (.int .i64 (n : Int)) (by rfl) (by kernel_rfl) ?_
          refine sx_rd 59 (.bool false) (by rfl) (bv c_46 (by kernel_rfl)) ?_
          refine sx_rd 60 (.bool false) (by rfl) (by kernel_rfl) ?_
          refine sx_skip 61 (by rfl) (by rfl) (by rfl) ?_
          refine sx_skip 62 (by rfl) (by rfl) (by rfl) ?_
          refine sx_skip 63 (by rfl) (by rfl) (by rfl) ?_
          refine sx_skip 64 (by rfl) (by rfl) (by rfl) ?_
          refine sx_rd 65 (.bool false) (by rfl) (by kernel_rfl) ?_
          refine sx_nil ?_
          refine ex_then_n ?_
          refine sx_else false (by rfl) rfl ?_
          refine wp_skip ?_
          refine ex_then_n ?_
          refine wp_seq ?_
          refine sx_region ?_
          refine sx_rd 8 (.bool true) (by rfl) (by kernel_rfl) ?_
          refine sx_nil ?_
          refine ex_then_n ?_
          refine wp_ret ?_
          refine sx_end (.bool true) (res1 8 (by rfl)) ?_
          have hff : ffN b a = i := ffN_hit hai (by omega) hsk hfree
          have hL : layG C.S w n (d + 1) b a t = (true, t) := by rw [layG_go hff (by omega), east_no (by omega), if_pos rfl, south_no (by omega)]
          rw [hL]
          exact ⟨_, _, rfl, hok.mono _ _ _ _ (by simp only [cst]; omega) hiv, (hp.take [1, 2, 3, 4, 5, 6, 7, 8] 9 (by decide) (by simp))⟩
theorem lay_all {τ γ : Type} (C : Cb τ γ) (w0 : World) (n : Nat) (hok : CbOk C w0 n) : ∀ d, LayOk C w0 n d := by
  intro d
  induction d with
  | zero => intro W cs gL gc ge gt gl gb gw w h b a cL FL t g q hw1 hw2 hwh hn hbn han hdn; omega
  | succ d ih => exact lay_of C w0 n hok d (try_of C w0 n hok d ih)
set_option maxRecDepth 100000 in
set_option maxHeartbeats 40000000 in
theorem layouts_sx {τ γ : Type} (C : Cb τ γ) {w0 W : World} {cs : List Chunk} (w h : Int) (n : Nat) (hok : CbOk C w0 n) (t : τ) (g : γ) (hw1 : 1 ≤ w) (hw2 : w ≤ 30) (hh1 : 1 ≤ h) (hh2 : h ≤ 30) (hwh : w * h = (n : Int)) (hn : n ≤ 30) (hiv : C.inv (cst 31 + 0) t g) (hp : Hp w0 (C.X t g :: cs) W) : Calls Tryz.prog 55 #[.int .i64 w, .int .i64 h, .func (.func C.ft) #[] C.ct, .func (.func C.fb) #[] C.cb, .func (.func C.fe) #[] C.ce] W fun e W' => ∃ g', e = .returned (.tuple #[]) ∧ C.inv 0 (layG C.S w n 31 (List.replicate n (0 : Int)) 0 t).2 g' ∧ Hp w0 (C.X (layG C.S w n 31 (List.replicate n (0 : Int)) 0 t).2 g' :: cs) W' := by
 refine sx_enter (N := 19) (l := [.int .i64 w, .int .i64 h, .func (.func C.ft) #[] C.ct, .func (.func C.fb) #[] C.cb, .func (.func C.fe) #[] C.ce]) Tryz.func55 rfl rfl rfl ?_
 refine wp_seq ?_
 refine sx_region ?_
 refine sx_box 5 hp #[.int .i64 w] 3 (by rfl) (fun W => by kernel_rfl) ?_
 intro g_1 W_2 hp
 refine sx_box 7 hp #[.func (.func C.ft) #[] C.ct] 84 (by rfl) (fun W => by kernel_rfl) ?_
 intro g_3 W_4 hp
 refine sx_box 8 hp #[.func (.func C.fb) #[] C.cb] 86 (by rfl) (fun W => by kernel_rfl) ?_
 intro g_5 W_6 hp
 refine sx_box 9 hp #[.func (.func C.fe) #[] C.ce] 87 (by rfl) (fun W => by kernel_rfl) ?_
 intro g_7 W_8 hp
 refine sx_nil ?_
 refine ex_then_n ?_
 refine wp_seq ?_
 refine sx_region ?_
 refine sx_rd 12 (.int .i64 w) (by rfl) (ld1 (t := 3) (p := (.tmp 5)) (by rfl) (by rfl) (by kernel_rfl) (hp.cell 3 (by rfl) 0 _ (by rfl))) ?_
 refine sx_rd 13 (.int .i64 h) (by rfl) (by kernel_rfl) ?_
 refine sx_rd 14 (.int .i64 (n : Int)) (by rfl) (mul_run (by rfl) (by rfl) (by rfl) hwh (by omega)) ?_
 refine sx_make 15 (by rfl) (Kd.int .u8) w0.heap.size 5 n (by rfl) (by rfl) (by rfl) (by omega) Tryz.underlying49 (.int .u8 0) 1 (by rfl) (by rfl) (by decide) (by decide) 0 rfl (by omega) hp.size hp ?_
 intro g_9 F_10 W_11 hp
 refine sx_box 10 hp #[.slice none 0 0] 49 (by rfl) (fun W => by kernel_rfl) ?_
 intro g_12 W_13 hp
 refine sx_store (t := 49) (p := (.tmp 10)) (x := (.tmp 15)) (by rfl) (by rfl) 0 (by rfl) 0 [.slice (some ⟨g_9, 0, none⟩) ((List.replicate n (0 : Int)).length) ((List.replicate n (0 : Int)).length)] (by rfl) (by rfl) (by kernel_rfl) (by simp [Value.oneCell']) (by show 1 ≤ 1; omega) #[.slice (some ⟨g_9, 0, none⟩) ((List.replicate n (0 : Int)).length) ((List.replicate n (0 : Int)).length)] (by rfl) hp ?_
 intro W_14 hp; simp only [List.set_cons_succ, List.set_cons_zero] at hp
 refine sx_nil ?_
 refine ex_then_n ?_
 refine wp_seq ?_
 refine sx_region ?_
 refine sx_box 11 hp #[.nilFunc] 102 (by rfl) (fun W => by kernel_rfl) ?_
 intro g_15 W_16 hp
 refine sx_nil ?_
 refine ex_then_n ?_
 refine wp_seq ?_
 refine sx_region ?_
 refine sx_rd 16 (.func (.func 81) #[] #[.pointer (some ⟨g_12, 0, none⟩), .pointer (some ⟨g_7, 0, none⟩), .pointer (some ⟨g_3, 0, none⟩), .pointer (some ⟨g_15, 0, none⟩), .pointer (some ⟨g_5, 0, none⟩), .pointer (some ⟨g_1, 0, none⟩)]) (by rfl) (by kernel_rfl) ?_
 refine sx_store (t := 102) (p := (.tmp 11)) (x := (.tmp 16)) (by rfl) (by rfl) 0 (by rfl) 0 [.func (.func 81) #[] #[.pointer (some ⟨g_12, 0, none⟩), .pointer (some ⟨g_7, 0, none⟩), .pointer (some ⟨g_3, 0, none⟩), .pointer (some ⟨g_15, 0, none⟩), .pointer (some ⟨g_5, 0, none⟩), .pointer (some ⟨g_1, 0, none⟩)]] (by rfl) (by rfl) (by kernel_rfl) (by simp [Value.oneCell']) (by show 1 ≤ 1; omega) #[.func (.func 81) #[] #[.pointer (some ⟨g_12, 0, none⟩), .pointer (some ⟨g_7, 0, none⟩), .pointer (some ⟨g_3, 0, none⟩), .pointer (some ⟨g_15, 0, none⟩), .pointer (some ⟨g_5, 0, none⟩), .pointer (some ⟨g_1, 0, none⟩)]] (by rfl) hp ?_
 intro W_17 hp; simp only [List.set_cons_succ, List.set_cons_zero] at hp
 refine sx_nil ?_
 refine ex_then_n ?_
 refine sx_region ?_
 refine sx_rd 17 (.func (.func 81) #[] #[.pointer (some ⟨g_12, 0, none⟩), .pointer (some ⟨g_7, 0, none⟩), .pointer (some ⟨g_3, 0, none⟩), .pointer (some ⟨g_15, 0, none⟩), .pointer (some ⟨g_5, 0, none⟩), .pointer (some ⟨g_1, 0, none⟩)]) (by rfl) (ld1 (t := 102) (p := (.tmp 11)) (by rfl) (by rfl) (by kernel_rfl) (hp.cell 0 (by rfl) 0 _ (by rfl))) ?_
 have hzl : (List.replicate n (0 : Int)).length = n := List.length_replicate
 have hp2 := (hp.take [1, 2, 3, 5, 0, 4, 6, 7] 8 (by decide) (by simp))
 rw [hzl] at hp2
 refine sx_call 18 (by rfl) (by kernel_rfl) (((lay_all C w0 n hok 31 _ (cs) g_9 g_12 g_7 g_3 g_15 g_5 g_1 w h (List.replicate n (0 : Int)) 0 n F_10 t g 0 hw1 hw2 hwh hn hzl (Nat.zero_le _) (by omega) (fun k h1 h2 => by rw [rd_at h2]; simp) (fun x hx => by rw [List.mem_replicate] at hx; omega) hiv hp2)).mono ?_)
 rintro _ W_18 ⟨FL2, g2, rfl, hi2, hp⟩
 refine ⟨_, rfl, ?_⟩
 refine sx_nil ?_
 refine sx_end_n (.tuple #[]) (res0 (by rfl)) ?_
 exact ⟨_, rfl, hi2, (hp.take [7] 8 (by decide) (by simp))⟩
end Go.Proofs.YtokkiiepddhkiaaGreatDoor.Hd
