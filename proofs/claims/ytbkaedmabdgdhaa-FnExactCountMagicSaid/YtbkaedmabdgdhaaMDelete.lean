/- slices.Delete of one tile, by hand. -/
import Derived.Test.YtbkaedmabdgdhaaMCut
import Derived.Test.YtbkaedmabdgdhaaMSx4
import Derived.Test.YtbkaedmabdgdhaaMTileR
import Derived.Test.YtbkaedmabdgdhaaPTile0
namespace Go.Proofs.Ytbkaedmabdgdhaa.Hd
open Go.RowKit Go.Proofs.Ytbkaedmabdgdhaa.Pure Go.Proofs.YtbkaedmabdgdhaaW.PrintWords Go.Proofs.YtbkaedmabdgdhaaW.PrintLast Go.Proofs.YtbkaedmabdgdhaaW.PrintMore
set_option linter.unusedVariables false
set_option linter.unusedSimpArgs false
theorem add_at (g n : Nat) : Option.map (fun x : Addr => x.add (n * 2)) (some ⟨g, 0, none⟩) = some ⟨g, n * 2, none⟩ := by
  simp only [Option.map_some, Addr.add]
  split
  · rename_i h; rw [h]
  · simp
theorem drop_C {W : World} {base g c : Nat} {F : Nat → Prop} {l0 : List S_Tile} (h : (row k50 50 base (.slice (some ⟨g, 0, none⟩) l0.length c) l0 F).ok W) (m : Nat) (hm : m ≤ l0.length) : Kd.C k50 W (if c = m then some ⟨g, 0, none⟩ else Option.map (fun x : Addr => x.add (m * 2)) (some ⟨g, 0, none⟩)) (l0.drop m).length (l0.drop m) := by
  have hc := (row_len h).2
  have h2 := Kd.C_drop (row_C h) hm hc
  exact h2
set_option maxRecDepth 100000 in
set_option maxHeartbeats 40000000 in
theorem delete_sx {w0 W : World} {cs : List Chunk} {base c : Nat} {A : Option Addr} {l0 : List S_Tile} {F : Nat → Prop} (hp : Hp w0 (row k50 50 base (.slice A l0.length c) l0 F :: cs) W) (i : Nat) (hi : i < l0.length) (hn : l0.length ≤ 1000000) :
    Calls Try.prog 78 #[.slice A l0.length c, .int .i64 (i : Int), .int .i64 ((i + 1 : Nat) : Int)] W fun e W' => ∃ F', e = .returned (.slice A (l0.eraseIdx i).length c) ∧ Hp w0 (row k50 50 base (.slice A (l0.eraseIdx i).length c) (l0.eraseIdx i) F' :: cs) W' := by
  have hcap := (row_len (hp.at_ 0 _ (by rfl))).2
  obtain ⟨g, rfl⟩ := row_form (hp.at_ 0 _ (by rfl)) (by omega)
  have htl : (l0.take i).length = i := by rw [List.length_take]; omega
  refine sx_enter (N := 33) (l := [.slice (some ⟨g, 0, none⟩) l0.length c, .int .i64 (i : Int), .int .i64 ((i + 1 : Nat) : Int)]) Try.func78 rfl rfl rfl ?_
  refine wp_seq ?_
  refine sx_region ?_
  refine sx_rd 6 (.slice none 0 0) (by rfl) (by kernel_rfl) ?_
  refine sx_nil ?_
  refine ex_then_n ?_
  refine wp_seq ?_
  refine sx_region ?_
  refine sx_rd 8 (.slice (some ⟨g, 0, none⟩) l0.length c) (by rfl) (by kernel_rfl) ?_
  refine sx_rd 9 (.int .i64 (i : Int)) (by rfl) (by kernel_rfl) ?_
  refine sx_rd 10 (.int .i64 ((i + 1 : Nat) : Int)) (by rfl) (by kernel_rfl) ?_
  refine sx_rd 11 (.slice (some ⟨g, 0, none⟩) l0.length c) (by rfl) (by kernel_rfl) ?_
  refine sx_rd 12 (.int .i64 (l0.length : Int)) (by rfl) (by kernel_rfl) ?_
  refine sx_rd 13 (.slice (if l0.length = i then some ⟨g, 0, none⟩ else Option.map (fun x : Addr => x.add (i * 2)) (some ⟨g, 0, none⟩)) (i + 1 - i) (l0.length - i)) (by rfl) (sl_lhm i (i + 1) l0.length (sz := 2) (by rfl) (by rfl) (by rfl) rfl (by rfl) rfl (by rfl) rfl Try.underlying26 (by kernel_rfl) (by omega) (by omega) (by omega) (by omega)) ?_
  refine sx_nil ?_
  refine ex_then_n ?_
  refine wp_seq ?_
  refine wp_seq ?_
  refine sx_region ?_
  refine sx_rd 14 (.int .i64 (i : Int)) (by rfl) (by kernel_rfl) ?_
  refine sx_rd 15 (.int .i64 ((i + 1 : Nat) : Int)) (by rfl) (by kernel_rfl) ?_
  refine sx_rd 16 (.bool ((i : Int) == ((i + 1 : Nat) : Int))) (by rfl) (by kernel_rfl) ?_
  refine sx_nil ?_
  refine ex_then_n ?_
  refine sx_cond ((i : Int) == ((i + 1 : Nat) : Int)) (by rfl) (fun c_1 => ?_) (fun c_1 => ?_)
  ·
    have c_1p := eq_of_beq_ c_1
    exact absurd c_1p (by omega)
  ·
    have c_1p := ne_of_beq_ c_1
    refine wp_skip ?_
    refine ex_then_n ?_
    refine wp_seq ?_
    refine sx_region ?_
    refine sx_rd 18 (.slice (some ⟨g, 0, none⟩) l0.length c) (by rfl) (by kernel_rfl) ?_
    refine sx_rd 19 (.int .i64 (l0.length : Int)) (by rfl) (by kernel_rfl) ?_
    refine sx_rd 7 (.int .i64 (l0.length : Int)) (by rfl) (by kernel_rfl) ?_
    refine sx_nil ?_
    refine ex_then_n ?_
    refine wp_seq ?_
    refine sx_drawT [0, 1, 2, 3, 4, 5] (.fin) 6 (C := Hp w0 (row k50 50 base (.slice (some ⟨g, 0, none⟩) l0.length c) l0 F :: cs)) (by kernel_rfl) (by kernel_rfl) (fun d _ _ _ _ h => by cases d <;> exact h) (fun W h => h.drew) hp ?_
    refine preI_read rfl ?_
    refine sxq_val 20 (.slice (some ⟨g, 0, none⟩) l0.length c) (by rfl) (fun W _ => (by kernel_rfl)) ?_
    refine sxq_nil ?_
    refine preI_read rfl ?_
    refine sxq_val 21 (.int .i64 (i : Int)) (by rfl) (fun W _ => (by kernel_rfl)) ?_
    refine sxq_nil ?_
    refine preI_read rfl ?_
    refine sxq_val 22 (.slice (some ⟨g, 0, none⟩) ((l0.take i).length) c) (by rfl) (fun W _ => (sl_hi i (sz := 2) (xs := l0) (by rfl) (by rfl) (by rfl) rfl Try.underlying26 (by kernel_rfl) (by omega) hcap)) ?_
    refine sxq_nil ?_
    refine preI_read rfl ?_
    refine sxq_val 23 (.slice (some ⟨g, 0, none⟩) l0.length c) (by rfl) (fun W _ => (by kernel_rfl)) ?_
    refine sxq_nil ?_
    refine preI_read rfl ?_
    refine sxq_val 24 (.int .i64 ((i + 1 : Nat) : Int)) (by rfl) (fun W _ => (by kernel_rfl)) ?_
    refine sxq_nil ?_
    refine preI_read rfl ?_
    refine sxq_val 25 (.slice (if c = i + 1 then some ⟨g, 0, none⟩ else Option.map (fun x : Addr => x.add ((i + 1) * 2)) (some ⟨g, 0, none⟩)) ((l0.drop (i + 1)).length) (c - (i + 1))) (by rfl) (fun W _ => (sl_lo (i + 1) (sz := 2) (xs := l0) (by rfl) (by rfl) (by rfl) rfl Try.underlying26 (by kernel_rfl) (by omega))) ?_
    refine sxq_nil ?_
    refine preI_nil ?_
    intro W_2 hp
    refine treeI_fin ?_
    refine tail_of [6, 7] (by rfl) ?_
    refine tailI_op rfl ?_
    have hdl : (l0.drop (i + 1)).length = l0.length - (i + 1) := List.length_drop
    refine sx_appfit 26 (by rfl) k50 0 (by rfl) (by rfl) Try.underlying26 (by kernel_rfl) (by decide) (l0.drop (i + 1)) (by rfl) (by rfl) (drop_C (hp.at_ 0 _ (by rfl)) (i + 1) (by omega)) (fun x cs h => tile_kp x cs h) (by omega) (by omega) hp ?_
    intro F_3 W_4 hp; simp only [List.set_cons_zero] at hp
    refine tailI_next ?_
    refine tailI_op rfl ?_
    refine sx_rd 0 (.slice (some ⟨g, 0, none⟩) ((l0.take i).length + (l0.drop (i + 1)).length) c) (by rfl) (by kernel_rfl) ?_
    refine tailI_next ?_
    refine tailI_nil ?_
    refine ex_then_n ?_
    refine wp_seq ?_
    refine sx_region ?_
    refine sx_rd 27 (.slice (some ⟨g, 0, none⟩) ((l0.take i).length + (l0.drop (i + 1)).length) c) (by rfl) (by kernel_rfl) ?_
    refine sx_rd 28 (.slice (some ⟨g, 0, none⟩) ((l0.take i).length + (l0.drop (i + 1)).length) c) (by rfl) (by kernel_rfl) ?_
    refine sx_rd 29 (.int .i64 ((l0.take i).length + (l0.drop (i + 1)).length : Int)) (by rfl) (by kernel_rfl) ?_
    refine sx_rd 30 (.int .i64 (l0.length : Int)) (by rfl) (by kernel_rfl) ?_
    refine sx_rd 31 (.slice (if c = ((l0.take i).length + (l0.drop (i + 1)).length) then some ⟨g, 0, none⟩ else Option.map (fun x : Addr => x.add (((l0.take i).length + (l0.drop (i + 1)).length) * 2)) (some ⟨g, 0, none⟩)) (l0.length - ((l0.take i).length + (l0.drop (i + 1)).length)) (c - ((l0.take i).length + (l0.drop (i + 1)).length))) (by rfl) (sl_cap ((l0.take i).length + (l0.drop (i + 1)).length) l0.length (sz := 2) (by rfl) (by rfl) (by rfl) rfl (by rfl) rfl Try.underlying26 (by kernel_rfl) (by omega) (by omega)) ?_
    refine sx_clear0 (by rfl) hp 0 k50 (by rfl) (by rfl) (by rfl) (fun _ => by rw [if_neg (by omega)]; exact add_at _ _) (by omega) Try.underlying26 (.agg #[.int .i64 0, .int .i64 0]) (by kernel_rfl) (by rfl) (by first | decide | simp [Value.cells, Value.oneCell'] | kernel_rfl) ?_
    intro W_5 hp
    refine sx_nil ?_
    refine ex_then_n ?_
    refine wp_seq ?_
    refine sx_region ?_
    refine sx_rd 32 (.slice (some ⟨g, 0, none⟩) ((l0.take i).length + (l0.drop (i + 1)).length) c) (by rfl) (by kernel_rfl) ?_
    refine sx_rd 6 (.slice (some ⟨g, 0, none⟩) ((l0.take i).length + (l0.drop (i + 1)).length) c) (by rfl) (by kernel_rfl) ?_
    refine sx_nil ?_
    refine ex_then_n ?_
    refine wp_ret ?_
    refine sx_end (.slice (some ⟨g, 0, none⟩) ((l0.take i).length + (l0.drop (i + 1)).length) c) (res1 6 (by rfl)) ?_
    have e1 : l0.take (l0.take i).length ++ l0.drop (i + 1) = l0.eraseIdx i := by rw [List.length_take, Nat.min_eq_left (by omega), List.eraseIdx_eq_take_drop_succ]
    have e2 : (l0.take i).length + (l0.drop (i + 1)).length = (l0.eraseIdx i).length := by rw [← e1]; simp
    rw [e1, e2] at hp
    exact ⟨_, by rw [e2], hp⟩
end Go.Proofs.Ytbkaedmabdgdhaa.Hd
