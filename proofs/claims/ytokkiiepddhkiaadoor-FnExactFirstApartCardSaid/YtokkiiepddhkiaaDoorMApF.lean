/- impl.FirstApart, by hand. -/
import Derived.Test.YtokkiiepddhkiaaDoorMApX
import Derived.Test.YtokkiiepddhkiaaDoorPApB
import Derived.Test.YtokkiiepddhkiaaDoorG2
import Derived.Test.YtokkiiepddhkiaaDoorMMx
namespace Go.Proofs.YtokkiiepddhkiaaDoor.Hd
open Go Go.RowKit Go.Proofs.YtokkiiepddhkiaaDoor.Pure Go.Proofs.YtokkiiepddhkiaaDoorW.PrintWords Go.Proofs.YtokkiiepddhkiaaDoorW.PrintLast Go.Proofs.YtokkiiepddhkiaaDoorW.PrintMore
set_option linter.unusedVariables false
set_option linter.unusedSimpArgs false
def fiE (gm : Nat) : Ec ByteArray Unit where
 fe := 29
 ce := #[.pointer (some ⟨gm, 0, none⟩)]
 Y a _ := blk gm #[.string a] 9
 ea := fiF
 inv q a _ := True
set_option maxRecDepth 100000 in
set_option maxHeartbeats 40000000 in
theorem fiE_ok (gm : Nat) (w0 : World) : EcOk (fiE gm) w0 where
 enE := fun args w => by kernel_rfl
 mono := fun q q' a g h hi => trivial
 call := by
  intro cs W q a g x hiv hx hp
  replace hp : Hp w0 (blk gm #[.string a] 9 :: cs) W := hp
  skip
  show Calls Tryd.prog 29 #[.string x, .pointer (some ⟨gm, 0, none⟩)] W _
  refine sx_enter (N := 5) (l := [.string x, .pointer (some ⟨gm, 0, none⟩)]) Tryd.func29 rfl rfl rfl ?_
  refine wp_seq ?_
  refine sx_region ?_
  refine sx_rd 3 (.bool false) (by rfl) (by kernel_rfl) ?_
  refine sx_nil ?_
  refine ex_then_n ?_
  refine wp_seq ?_
  refine sx_region ?_
  refine sx_rd 4 (.string x) (by rfl) (by kernel_rfl) ?_
  refine sx_store (t := 9) (p := (.tmp 1)) (x := (.tmp 4)) (by rfl) (by rfl) 0 (by rfl) 0 [.string x] (by rfl) (by rfl) (by kernel_rfl) (by simp [Value.oneCell']) (by show 1 ≤ 1; omega) #[.string x] (by rfl) hp ?_
  intro W_1 hp; simp only [List.set_cons_succ, List.set_cons_zero] at hp
  refine sx_nil ?_
  refine ex_then_n ?_
  refine wp_seq ?_
  refine sx_region ?_
  refine sx_rd 3 (.bool false) (by rfl) (by kernel_rfl) ?_
  refine sx_nil ?_
  refine ex_then_n ?_
  refine wp_ret ?_
  refine sx_end (.bool false) (res1 3 (by rfl)) ?_
  exact ⟨(), rfl, trivial, (hp.take [0] 1 (by decide) (by simp))⟩
def impl_FirstApart.f (a0 : ByteArray) (l1 : List S_Tile) : Option (ByteArray × Bool) := if a0.size ≤ 1048576 then (if (isTab a0 && handB l1) = true then some (apR a0 l1 fiF ⟨#[]⟩, (apR a0 l1 fiF ⟨#[]⟩).toList != (⟨#[]⟩ : ByteArray).toList) else some (⟨#[]⟩, false)) else none
set_option maxRecDepth 100000 in
set_option maxHeartbeats 40000000 in
theorem impl_FirstApart.calls (a0 : ByteArray) (A1 : Option Addr) (c1 : Nat) (l1 : List S_Tile) (r0 : ByteArray) (r1 : Bool) (w : World) (hr1 : Kd.C k54 w A1 l1.length l1) (hc1 : l1.length ≤ c1) (hmx : ∃ m, w.cell? ⟨0, 0, none⟩ = some (.int .i64 m)) (h : impl_FirstApart.f a0 l1 = some (r0, r1)) :
  Calls Tryd.prog 14 #[.string a0, .slice A1 l1.length c1] w fun e w' => e = .returned (.tuple #[.string r0, .bool r1]) ∧ Below w.heap.size w w' := by
 unfold impl_FirstApart.f at h
 by_cases hsz : a0.size ≤ 1048576
 case neg => rw [if_neg hsz] at h; cases h
 rw [if_pos hsz] at h
 obtain ⟨cs, hcs⟩ : ∃ cs, cs = [old w w.heap.size] := ⟨_, rfl⟩
 have hp : Hp w cs w := by rw [hcs]; exact Hp.old_start w
 have hc2 : ∀ W, Hp w cs W → Below w.heap.size w W := fun W h => by rw [hcs] at h; exact h.since 0 _ rfl
 have hC1 : ∀ W, Hp w cs W → Kd.C k54 W A1 l1.length l1 := fun W h => Kd.C_below hr1 (hc2 W h)
 have hM : ∀ W, Hp w cs W → ∃ m, W.cell? ⟨0, 0, none⟩ = some (.int .i64 m) := fun W h => hmx.imp fun m q => ((hc2 W h).cell (World.block_lt_of_cell? _ _ q)).trans q
 clear hcs
 refine sx_enter (N := 18) (l := [.string a0, .slice A1 l1.length c1]) Tryd.func14 rfl rfl rfl ?_
 refine wp_seq ?_
 refine sx_region ?_
 refine sx_rd 4 (.string (⟨#[]⟩ : ByteArray)) (by rfl) (by kernel_rfl) ?_
 refine sx_rd 5 (.bool false) (by rfl) (by kernel_rfl) ?_
 refine sx_nil ?_
 refine ex_then_n ?_
 refine wp_seq ?_
 refine wp_seq ?_
 refine sx_region ?_
 refine sx_rd 7 (.string a0) (by rfl) (by kernel_rfl) ?_
 refine sx_rd 8 (.slice A1 l1.length c1) (by rfl) (by kernel_rfl) ?_
 obtain ⟨k_1, hk_k_1⟩ := Ev.rounds (isApart_ev a0 l1 hsz)
 refine sx_call 9 (by rfl) (by kernel_rfl) ((impl_isApart.calls k_1 a0 A1 c1 l1 _ _ (hC1 _ hp) hc1 (hM _ (hp)) hk_k_1).mono ?_)
 rintro _ W_2 ⟨rfl, hb⟩
 refine ⟨_, rfl, ?_⟩
 replace hp := hp.below hb
 clear hb
 refine sx_rd 10 (.bool (!(isTab a0 && handB l1))) (by rfl) (by kernel_rfl) ?_
 refine sx_nil ?_
 refine ex_then_n ?_
 refine sx_cond (!(isTab a0 && handB l1)) (by rfl) (fun c_3 => ?_) (fun c_3 => ?_)
 ·
  refine wp_seq ?_
  refine sx_region ?_
  refine sx_rd 4 (.string (⟨#[]⟩ : ByteArray)) (by rfl) (by kernel_rfl) ?_
  refine sx_rd 5 (.bool false) (by rfl) (by kernel_rfl) ?_
  refine sx_nil ?_
  refine ex_then_n ?_
  refine wp_ret ?_
  refine ex_then_r ?_
  refine sx_end (.tuple #[.string (⟨#[]⟩ : ByteArray), .bool false]) (res2 4 5 (by rfl)) ?_
  rw [if_neg (by rw [show (isTab a0 && handB l1) = false from (not_eq c_3)]; simp)] at h
  simp only [Option.some.injEq, Prod.mk.injEq] at h; obtain ⟨rfl, rfl⟩ := h
  exact ⟨rfl, hc2 _ (hp)⟩
 ·
  have hTH : isTab a0 = true ∧ handB l1 = true := by have q : (isTab a0 && handB l1) = true := (not_eq c_3); rwa [Bool.and_eq_true] at q
  refine wp_skip ?_
  refine ex_then_n ?_
  refine wp_seq ?_
  refine sx_region ?_
  refine sx_box 6 hp #[.string ByteArray.empty] 9 (by rfl) (fun W => by kernel_rfl) ?_
  intro g_4 W_5 hp
  refine sx_store (t := 9) (p := (.tmp 6)) (x := (.const (Go.Value.string ⟨#[]⟩))) (by rfl) (by rfl) 0 (by rfl) 0 [.string (⟨#[]⟩ : ByteArray)] (by rfl) (by rfl) (by kernel_rfl) (by simp [Value.oneCell']) (by show 1 ≤ 1; omega) #[.string (⟨#[]⟩ : ByteArray)] (by rfl) hp ?_
  intro W_6 hp; simp only [List.set_cons_succ, List.set_cons_zero] at hp
  refine sx_nil ?_
  refine ex_then_n ?_
  refine wp_seq ?_
  refine sx_region ?_
  refine sx_rd 11 (.string a0) (by rfl) (by kernel_rfl) ?_
  refine sx_rd 12 (.slice A1 l1.length c1) (by rfl) (by kernel_rfl) ?_
  refine sx_rd 13 (.func (.func 29) #[] #[.pointer (some ⟨g_4, 0, none⟩)]) (by rfl) (by kernel_rfl) ?_
  refine sx_call 14 (by rfl) (by kernel_rfl) ((apart_sx (fiE g_4) (fiE_ok g_4 w) (fun W h => hM W h) a0 hsz hTH.1 l1 hTH.2 A1 c1 hc1 (fun W h => hC1 W h) (⟨#[]⟩ : ByteArray) () trivial (hp.take [0] 1 (by decide) (by simp))).mono ?_)
  rintro _ W_7 ⟨_, rfl, hiv9, hp⟩
  refine ⟨_, rfl, ?_⟩
  replace hp : Hp w (blk g_4 #[.string (apR a0 l1 fiF (⟨#[]⟩ : ByteArray))] 9 :: cs) W_7 := hp
  refine sx_nil ?_
  refine ex_then_n ?_
  refine wp_seq ?_
  refine sx_drawT [] (.rd 0 (.rd 1 (.rd 2 (.rd 3 (.rd 4 (.fin)))))) 5 (C := Hp w (blk g_4 #[.string (apR a0 l1 fiF (⟨#[]⟩ : ByteArray))] 9 :: cs)) (by kernel_rfl) (by kernel_rfl) (fun d _ _ _ _ h => by cases d <;> exact h) (fun W h => h.drew) hp ?_
  refine preI_nil ?_
  intro W_8 hp
  refine treeI_rd rfl ?_
  refine sxq_val 15 (.string (apR a0 l1 fiF (⟨#[]⟩ : ByteArray))) (by rfl) (fun W hp => (ld1 (t := 9) (p := (.tmp 6)) (by rfl) (by rfl) (by kernel_rfl) (hp.cell 0 (by rfl) 0 _ (by rfl)))) ?_
  refine sxq_nil ?_
  refine treeI_rd rfl ?_
  refine sxq_val 16 (.string (apR a0 l1 fiF (⟨#[]⟩ : ByteArray))) (by rfl) (fun W hp => (ld1 (t := 9) (p := (.tmp 6)) (by rfl) (by rfl) (by kernel_rfl) (hp.cell 0 (by rfl) 0 _ (by rfl)))) ?_
  refine sxq_nil ?_
  refine treeI_rd rfl ?_
  refine sxq_val 17 (.bool ((apR a0 l1 fiF (⟨#[]⟩ : ByteArray)).toList != (⟨#[]⟩ : ByteArray).toList)) (by rfl) (fun W hp => (by kernel_rfl)) ?_
  refine sxq_nil ?_
  refine treeI_rd rfl ?_
  refine sxq_val 4 (.string (apR a0 l1 fiF (⟨#[]⟩ : ByteArray))) (by rfl) (fun W hp => (by kernel_rfl)) ?_
  refine sxq_nil ?_
  refine treeI_rd rfl ?_
  refine sxq_val 5 (.bool ((apR a0 l1 fiF (⟨#[]⟩ : ByteArray)).toList != (⟨#[]⟩ : ByteArray).toList)) (by rfl) (fun W hp => (by kernel_rfl)) ?_
  refine sxq_nil ?_
  refine treeI_fin ?_
  refine sx_nil ?_
  refine ex_then_n ?_
  refine wp_ret ?_
  refine sx_end (.tuple #[.string (apR a0 l1 fiF (⟨#[]⟩ : ByteArray)), .bool ((apR a0 l1 fiF (⟨#[]⟩ : ByteArray)).toList != (⟨#[]⟩ : ByteArray).toList)]) (res2 4 5 (by rfl)) ?_
  rw [if_pos (show (isTab a0 && handB l1) = true from (not_eq c_3))] at h
  simp only [Option.some.injEq, Prod.mk.injEq] at h; obtain ⟨rfl, rfl⟩ := h
  exact ⟨rfl, hc2 _ (hp.tail)⟩
end Go.Proofs.YtokkiiepddhkiaaDoor.Hd
