/- Spreads, the words: states of both sides as plain data, what a play does to them. -/
import Derived.Test.YtddgfphbbkjmpaaDoorMSxR
import Derived.Test.YtddgfphbbkjmpaaDoorPTile0
namespace Go.Proofs.YtddgfphbbkjmpaaDoor.Hd
open Go.RowKit Go.Proofs.YtddgfphbbkjmpaaDoor.Pure Go.Proofs.YtddgfphbbkjmpaaDoorW.PrintWords Go.Proofs.YtddgfphbbkjmpaaDoorW.PrintLast Go.Proofs.YtddgfphbbkjmpaaDoorW.PrintMore
set_option linter.unusedVariables false
structure LySt where
  ar : List S_Arm
  ti : List S_Tile
  sp : Int
  wt : Int
  fi : Bool
  l0 : Bool
  l1 : Bool
theorem arm_kp {W : World} {base : Nat} (x : S_Arm) (cs : List Value) (h : k72.K W x cs) : k72.M W base (fun _ => False) x cs := by rw [k72_open h]; exact k72_mkM _ _ _ _
theorem tile_kp {W : World} {base : Nat} (x : S_Tile) (cs : List Value) (h : k34.K W x cs) : k34.M W base (fun _ => False) x cs := by rw [k34_open h]; exact k34_mkM _ _ _ _
theorem reps_flat {α : Type} {R : α → List Value → Prop} {size : Nat} {f : α → List Value} (h : ∀ x, R x (f x)) (hs : ∀ x, (f x).length = size) (xs : List α) : Reps R size xs (xs.flatMap f) := by
  have key : ∀ (ys zs : List α), Reps R size ys (ys.flatMap f) → Reps R size (ys ++ zs) ((ys ++ zs).flatMap f) := by
    intro ys zs
    induction zs generalizing ys with
    | nil => intro h0; rwa [List.append_nil]
    | cons z zs ih =>
      intro h0
      have h1 := Reps.snoc h0 (h z) (hs z)
      have e : ys ++ z :: zs = (ys ++ [z]) ++ zs := by simp
      rw [e]
      refine ih (ys ++ [z]) ?_
      have e2 : (ys ++ [z]).flatMap f = ys.flatMap f ++ f z := by simp
      rw [e2]
      exact h1
  exact key [] xs (Reps.none _ _)
theorem arm_reps (W : World) (base : Nat) (xs : List S_Arm) : Reps (k72.M W base (fun _ => False)) 3 xs (xs.flatMap fun x => [.int .i64 x.f0, .bool x.f1, .bool x.f2]) := reps_flat (fun x => k72_mkM _ _ _ x) (fun _ => rfl) xs
theorem tile_reps (W : World) (base : Nat) (xs : List S_Tile) : Reps (k34.M W base (fun _ => False)) 2 xs (xs.flatMap fun x => [.int .i64 x.f0, .int .i64 x.f1]) := reps_flat (fun x => k34_mkM _ _ _ x) (fun _ => rfl) xs
def othT (t : S_Tile) (e : Int) : Int := if e = t.f0 then t.f1 else if e = t.f1 then t.f0 else -1
/-- May the play be made? -/
def lyCan (s : LySt) (p : S_Play) : Bool :=
  goodT p.f0 && !decide (idxT s.ti p.f0 ≥ 0) && !decide ((s.ti.length : Int) ≥ 28) &&
    (if s.ti.length = 0 then p.f1 == 0 else decide (0 ≤ p.f1) && decide (p.f1 ≤ (s.ar.length : Int) - 1) && !decide (othT p.f0 (rd_Arm s.ar p.f1).f0 < 0))
/-- Is the arm one of a first double that isn't laid to yet? -/
def lyHit (s : LySt) (a : Int) : Bool := s.fi && decide (a < 2) && !(if a = 0 then s.l0 else s.l1)
def lyDo (s : LySt) (p : S_Play) : LySt :=
  let d := (p.f0.f0 == p.f0.f1)
  if s.ti.length = 0 then { s with ar := [⟨p.f0.f0, d, false⟩, ⟨p.f0.f1, d, false⟩], ti := s.ti ++ [p.f0], sp := if d then p.f0.f0 else s.sp, fi := d || s.fi }
  else
    let hit := lyHit s p.f1
    let l0 := s.l0 || (hit && p.f1 == 0)
    let l1 := s.l1 || (hit && !(p.f1 == 0))
    let w := (s.wt == p.f1)
    let ar1 := s.ar.set p.f1.toNat ⟨othT p.f0 (rd_Arm s.ar p.f1).f0, d, false⟩
    let n := d && decide (s.sp < 0)
    { ar := if (hit && l0 && l1) || w then ar1 ++ [⟨s.sp, false, true⟩, ⟨s.sp, false, true⟩] else ar1, ti := s.ti ++ [p.f0], sp := if n then p.f0.f0 else s.sp, wt := if n then p.f1 else if w then -1 else s.wt, fi := s.fi, l0 := l0, l1 := l1 }
def lyAdd (s : LySt) (p : S_Play) : Option LySt := if lyCan s p then some (lyDo s p) else none
end Go.Proofs.YtddgfphbbkjmpaaDoor.Hd
