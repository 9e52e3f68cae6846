/- spec.CanPlay, spec.PlaysFor, by hand. -/
import Derived.Test.YtlphnpinpflaaaaMLyFor
import Derived.Test.YtlphnpinpflaaaaPTile
import Derived.Test.YtlphnpinpflaaaaG1
namespace Go.Proofs.Ytlphnpinpflaaaa.Hd
open Go.RowKit Go.Proofs.Ytlphnpinpflaaaa.Pure Go.Proofs.YtlphnpinpflaaaaW.PrintWords Go.Proofs.YtlphnpinpflaaaaW.PrintLast Go.Proofs.YtlphnpinpflaaaaW.PrintMore
set_option linter.unusedVariables false
set_option linter.unusedSimpArgs false
theorem tiHand_c (l : List S_Tile) (A : Option Addr) (c : Nat) (hc : l.length ≤ c) (w : World) (h : Kd.C k51 w A l.length l) :
  Calls Try.prog 85 #[.slice A l.length c] w fun e w' => e = .returned (.bool (handB l)) ∧ Below w.heap.size w w' := by
 obtain ⟨k, hk⟩ := (tiHand_ev l).rounds
 exact spec_tiHand.calls k A c l _ w h hc hk
set_option maxRecDepth 100000 in
set_option maxHeartbeats 40000000 in
theorem lyAsked_none (w0 W : World) (cs : List Chunk) (plays : List S_Play) (A : Option Addr) (c : Nat) (hl : plays.length ≤ 8388608) (hand : List S_Tile) (AH : Option Addr) (cH : Nat) (hcH : hand.length ≤ cH) (hC : ∀ W, Hp w0 cs W → Kd.C k53 W A plays.length plays) (hH : ∀ W, Hp w0 cs W → Kd.C k51 W AH hand.length hand) (hp : Hp w0 cs W) (hf : lyReadF plays = none) :
  Calls Try.prog 61 #[.slice A plays.length c, .slice AH hand.length cH] W fun e W' => ∃ g, e = .returned (.tuple #[.pointer (some ⟨g, 0, none⟩), .bool false]) ∧ Hp w0 cs W' := by
 refine sx_enter (N := 19) (l := [.slice A plays.length c, .slice AH hand.length cH]) Try.func61 rfl rfl rfl ?_
 refine wp_seq ?_
 refine sx_region ?_
 refine sx_rd 4 (.pointer none) (by rfl) (by kernel_rfl) ?_
 refine sx_rd 5 (.bool false) (by rfl) (by kernel_rfl) ?_
 refine sx_nil ?_
 refine ex_then_n ?_
 refine wp_seq ?_
 refine sx_region ?_
 refine sx_rd 9 (.slice A plays.length c) (by rfl) (by kernel_rfl) ?_
 refine sx_call 10 (by rfl) (by kernel_rfl) ((lyRead_none w0 _ cs plays A c hl hC hp hf).mono ?_)
 rintro _ W_1 ⟨g, rfl, hp⟩
 refine ⟨_, rfl, ?_⟩
 refine sx_rd 8 (.tuple #[.pointer (some ⟨g, 0, none⟩), .bool false]) (by rfl) (by kernel_rfl) ?_
 refine sx_rd 11 (.pointer (some ⟨g, 0, none⟩)) (by rfl) (by kernel_rfl) ?_
 refine sx_rd 12 (.bool false) (by rfl) (by kernel_rfl) ?_
 refine sx_rd 6 (.pointer (some ⟨g, 0, none⟩)) (by rfl) (by kernel_rfl) ?_
 refine sx_rd 7 (.bool false) (by rfl) (by kernel_rfl) ?_
 refine sx_nil ?_
 refine ex_then_n ?_
 refine wp_seq ?_
 refine sx_region ?_
 refine sx_rd 13 (.pointer (some ⟨g, 0, none⟩)) (by rfl) (by kernel_rfl) ?_
 refine sx_rd 14 (.bool false) (by rfl) (by kernel_rfl) ?_
 refine sx_rd 15 (.bool false) (by rfl) (by kernel_rfl) ?_
 refine sx_skip 16 (by rfl) (by rfl) (by rfl) ?_
 refine sx_skip 17 (by rfl) (by rfl) (by rfl) ?_
 refine sx_rd 18 (.bool false) (by rfl) (by kernel_rfl) ?_
 refine sx_rd 4 (.pointer (some ⟨g, 0, none⟩)) (by rfl) (by kernel_rfl) ?_
 refine sx_rd 5 (.bool false) (by rfl) (by kernel_rfl) ?_
 refine sx_nil ?_
 refine ex_then_n ?_
 refine wp_ret ?_
 refine sx_end (.tuple #[.pointer (some ⟨g, 0, none⟩), .bool false]) (res2 4 5 (by rfl)) ?_
 exact ⟨g, rfl, hp⟩
set_option maxRecDepth 100000 in
set_option maxHeartbeats 40000000 in
theorem lyAsked_some (w0 W : World) (cs : List Chunk) (plays : List S_Play) (A : Option Addr) (c : Nat) (hl : plays.length ≤ 8388608) (hand : List S_Tile) (AH : Option Addr) (cH : Nat) (hcH : hand.length ≤ cH) (hC : ∀ W, Hp w0 cs W → Kd.C k53 W A plays.length plays) (hH : ∀ W, Hp w0 cs W → Kd.C k51 W AH hand.length hand) (hp : Hp w0 cs W) (s : LySt) (hf : lyReadF plays = some s) :
  Calls Try.prog 61 #[.slice A plays.length c, .slice AH hand.length cH] W fun e W' => ∃ g A1 c1 A2 c2 F1 F2, e = .returned (.tuple #[.pointer (some ⟨g, 0, none⟩), .bool (handB hand)]) ∧ Hp w0 (blk g #[.slice A1 s.ar.length c1, .slice A2 s.ti.length c2, .int .i64 s.sp, .int .i64 s.wt, .bool s.fi, .bool s.l0, .bool s.l1] 83 :: row k85 85 w0.heap.size (.slice A1 s.ar.length c1) s.ar F1 :: row k51 51 w0.heap.size (.slice A2 s.ti.length c2) s.ti F2 :: cs) W' := by
 refine sx_enter (N := 19) (l := [.slice A plays.length c, .slice AH hand.length cH]) Try.func61 rfl rfl rfl ?_
 refine wp_seq ?_
 refine sx_region ?_
 refine sx_rd 4 (.pointer none) (by rfl) (by kernel_rfl) ?_
 refine sx_rd 5 (.bool false) (by rfl) (by kernel_rfl) ?_
 refine sx_nil ?_
 refine ex_then_n ?_
 refine wp_seq ?_
 refine sx_region ?_
 refine sx_rd 9 (.slice A plays.length c) (by rfl) (by kernel_rfl) ?_
 refine sx_call 10 (by rfl) (by kernel_rfl) ((lyRead_some w0 _ cs plays A c hl hC hp s hf).mono ?_)
 rintro _ W_1 ⟨g, A1, c1, A2, c2, F1, F2, rfl, hp⟩
 refine ⟨_, rfl, ?_⟩
 refine sx_rd 8 (.tuple #[.pointer (some ⟨g, 0, none⟩), .bool true]) (by rfl) (by kernel_rfl) ?_
 refine sx_rd 11 (.pointer (some ⟨g, 0, none⟩)) (by rfl) (by kernel_rfl) ?_
 refine sx_rd 12 (.bool true) (by rfl) (by kernel_rfl) ?_
 refine sx_rd 6 (.pointer (some ⟨g, 0, none⟩)) (by rfl) (by kernel_rfl) ?_
 refine sx_rd 7 (.bool true) (by rfl) (by kernel_rfl) ?_
 refine sx_nil ?_
 refine ex_then_n ?_
 refine wp_seq ?_
 refine sx_region ?_
 refine sx_rd 13 (.pointer (some ⟨g, 0, none⟩)) (by rfl) (by kernel_rfl) ?_
 refine sx_rd 14 (.bool true) (by rfl) (by kernel_rfl) ?_
 refine sx_rd 15 (.bool true) (by rfl) (by kernel_rfl) ?_
 refine sx_want (by rfl) ?_
 refine sx_rd 16 (.slice AH hand.length cH) (by rfl) (by kernel_rfl) ?_
 refine sx_want (by rfl) ?_
 refine sx_call 17 (by rfl) (by kernel_rfl) ((tiHand_c hand _ _ hcH _ (hH _ hp.tail.tail.tail)).mono ?_)
 rintro _ W_2 ⟨rfl, hb⟩
 refine ⟨_, rfl, ?_⟩
 replace hp := hp.below hb
 clear hb
 refine sx_rd 18 (.bool (handB hand)) (by rfl) (by kernel_rfl) ?_
 refine sx_rd 4 (.pointer (some ⟨g, 0, none⟩)) (by rfl) (by kernel_rfl) ?_
 refine sx_rd 5 (.bool (handB hand)) (by rfl) (by kernel_rfl) ?_
 refine sx_nil ?_
 refine ex_then_n ?_
 refine wp_ret ?_
 refine sx_end (.tuple #[.pointer (some ⟨g, 0, none⟩), .bool (handB hand)]) (res2 4 5 (by rfl)) ?_
 exact ⟨g, A1, c1, A2, c2, F1, F2, rfl, hp⟩
end Go.Proofs.Ytlphnpinpflaaaa.Hd
