/- spec's spreads, by hand: a new one, a copy. -/
import Derived.Test.YtddgfphbbkjmpaaDoorMLyS
namespace Go.Proofs.YtddgfphbbkjmpaaDoor.Hd
open Go.RowKit Go.Proofs.YtddgfphbbkjmpaaDoor.Pure Go.Proofs.YtddgfphbbkjmpaaDoorW.PrintWords Go.Proofs.YtddgfphbbkjmpaaDoorW.PrintLast Go.Proofs.YtddgfphbbkjmpaaDoorW.PrintMore
set_option linter.unusedVariables false
set_option linter.unusedSimpArgs false
set_option maxRecDepth 100000 in
set_option maxHeartbeats 40000000 in
theorem lyNew_sx (w0 W : World) (cs : List Chunk) (hp : Hp w0 cs W) :
    Calls Tryd.prog 17 #[] W fun e W' => ∃ g, e = .returned (.pointer (some ⟨g, 0, none⟩)) ∧ Hp w0 (blk g #[.slice none 0 0, .slice none 0 0, .int .i64 (-1), .int .i64 (-1), .bool false, .bool false, .bool false] 68 :: cs) W' := by
  refine sx_enter (N := 3) (l := []) Tryd.func17 rfl rfl rfl ?_
  refine wp_seq ?_
  refine sx_region ?_
  refine sx_rd 0 (.pointer none) (by rfl) (by kernel_rfl) ?_
  refine sx_nil ?_
  refine ex_then_n ?_
  refine wp_seq ?_
  refine sx_region ?_
  refine sx_rd 1 (.agg #[.slice none 0 0, .slice none 0 0, .int .i64 (-1), .int .i64 (-1), .bool false, .bool false, .bool false]) (by rfl) (by kernel_rfl) ?_
  refine sx_box 2 hp #[.slice none 0 0, .slice none 0 0, .int .i64 (-1), .int .i64 (-1), .bool false, .bool false, .bool false] 68 (by rfl) (fun W => by kernel_rfl) ?_
  intro g_1 W_2 hp
  refine sx_rd 0 (.pointer (some ⟨g_1, 0, none⟩)) (by rfl) (by kernel_rfl) ?_
  refine sx_nil ?_
  refine ex_then_n ?_
  refine wp_ret ?_
  refine sx_end (.pointer (some ⟨g_1, 0, none⟩)) (res1 0 (by rfl)) ?_
  exact ⟨_, rfl, hp⟩
end Go.Proofs.YtddgfphbbkjmpaaDoor.Hd
