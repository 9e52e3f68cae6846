/- A row of bytes made of a text ('[]byte(s)'): its own piece; slices.Reverse over it, and back to a text. -/
import Derived.Test.YtjhbnkplpaffoaaDoorMMx
import Derived.Test.YtjhbnkplpaffoaaDoorShelfR
import Derived.Laws.IdiomStrings
import Derived.Sort.Row
namespace Go.Proofs.YtjhbnkplpaffoaaDoor.Hd
open Go Go.RowKit Go.Sort Go.Proofs.YtjhbnkplpaffoaaDoorW.PrintWords Go.Proofs.YtjhbnkplpaffoaaDoorW.PrintLast Go.Proofs.YtjhbnkplpaffoaaDoorW.PrintMore
set_option linter.unusedVariables false
set_option linter.unusedSimpArgs false
def encB (b : UInt8) : Value := .int .u8 (b.toNat : Int)
def bytesB (g : Nat) (l : List UInt8) : Chunk where
  fp := fun k => k = g
  ok W := Holds encB W g 0 l.toArray ∧ g < W.heap.size
  move {W W'} h e := by
    have h1 := e g rfl
    have h2 : g < W'.heap.size := by
      rw [Array.getElem?_eq_getElem h.2] at h1
      exact (Array.getElem?_eq_some_iff.1 h1).1
    refine ⟨fun j hj => ?_, h2⟩
    obtain ⟨a, b⟩ := h.1 j hj
    unfold World.cell? at a ⊢
    unfold World.frozen? at b ⊢
    rw [h1]
    exact ⟨a, b⟩
  live h := fun k hk => by subst hk; exact h.2
section
variable {P : Program} {N : Nat} {s : List (Nat × Value)} {o : Oper} {rest : List Oper} {ops : Array Oper} {Q : Exit → Act → World → Prop} {W w0 : World} {cs : List Chunk}
theorem bytesRow_get (a : ByteArray) (cap j : Nat) (hj : j < a.data.toList.length) : (bytesRow a cap)[j]? = some (encB a.data.toList[j]) := by
  unfold bytesRow encB
  have h : j < a.data.size := by simpa using hj
  rw [Array.getElem?_append_left (by simpa using h), Array.getElem?_map, Array.getElem?_eq_getElem h]
  simp
theorem sx_bytes (q : Nat) (hk : okB o q N = true) {src dst e : TypeId} {x : Operand} {a : ByteArray} (ho : o.op = .convert src dst x) (hx : evl N s x = .string a) (hs : P.underlying src = some .string) (hd : P.underlying dst = some (.slice e)) (he : P.underlying e = some (.int .u8)) (hp : Hp w0 cs W)
    (h : ∀ g c W', Hp w0 (bytesB g a.data.toList :: cs) W' → WL P ops Q rest (fr N ((q, .slice (some ⟨g, 0, none⟩) a.data.toList.length c) :: s)) W') : WL P ops Q (o :: rest) (fr N s) W := by
  have hlen : a.data.toList.length = a.size := by rw [Array.length_toList]; rfl
  have hr := run_bytes_of_string (P := P) W src dst e a hs hd he
  rw [← hlen] at hr
  generalize grownCap W a.data.toList.length 0 e = cap at hr
  refine sx_val q (.slice (some ⟨W.heap.size, 0, none⟩) a.data.toList.length cap) hk (W' := W.drew.alloc (.cells (bytesRow a cap) e ((bytesRow a cap).size, (bytesRow a cap).size + 1))) ?_ ?_
  · unfold execOp
    simp only [ho, hx]
    simp [Sem.run_bind, Sem.run_pure, hr]
  · have hh : (W.drew.alloc (.cells (bytesRow a cap) e ((bytesRow a cap).size, (bytesRow a cap).size + 1))).heap[W.heap.size]? = some (.cells (bytesRow a cap) e ((bytesRow a cap).size, (bytesRow a cap).size + 1)) := by
      show (W.heap.push _)[W.heap.size]? = some _
      exact Array.getElem?_push_size
    refine h W.heap.size _ _ (hp.add (Mv.quiet (below_alloc (below_drew (Below.refl _ _)) _)) _ ⟨?_, ?_⟩ (fun k hk => by have hk : k = W.heap.size := hk; omega))
    · intro j hj
      have hj' : j < a.data.toList.length := by simpa using hj
      have hg := bytesRow_get a cap j hj'
      have hlt := (Array.getElem?_eq_some_iff.1 hg).1
      refine ⟨?_, ?_⟩
      · have e : (a.data.toList.toArray)[j]! = a.data.toList[j] := by rw [getElem!_pos _ j (by simpa using hj')]; simp
        rw [e]
        unfold World.cell?
        simp only [hh, Nat.zero_add]
        rw [if_neg (by simp)]
        exact hg
      · unfold World.frozen?
        simp only [hh, Nat.zero_add]
        have : decide ((bytesRow a cap).size ≤ j) = false := decide_eq_false (by omega)
        rw [this, Bool.false_and]
    · exact (Array.getElem?_eq_some_iff.1 hh).1
theorem reverse_sx (g c : Nat) (l : List UInt8) (hl : l.length ≤ 9223372036854775807) (hp : Hp w0 (bytesB g l :: cs) W) :
    Calls Tryd.prog 42 #[.slice (some ⟨g, 0, none⟩) l.length c] W fun e W' => e = .returned (.tuple #[]) ∧ Hp w0 (bytesB g l.reverse :: cs) W' := by
  have hb := hp.at_ 0 _ rfl
  refine (AnyE.slices_Reverse Tryd.revByte encB (fun _ => rfl) g 0 c l W hb.1 hl).mono ?_
  rintro e W' ⟨rfl, n, rfl⟩
  have hsz : (Sort.putRow encB (Sort.ahead W n) g 0 l.reverse.toArray).heap.size = W.heap.size := by simp [Sort.putRow, Sort.mapBlock, Sort.ahead]
  refine ⟨rfl, hp.upd 0 _ (bytesB g l.reverse) rfl ⟨rfl, rfl, rfl, by omega, fun k hk hn => ?_⟩ ⟨Sort.holds_putRow encB (Sort.ahead W n) g 0 l.toArray l.reverse.toArray hb.1 (by simp), by rw [hsz]; exact hb.2⟩ (fun k hk => .inl hk)⟩
  have hne : k ≠ g := fun q => hn q
  simp only [Sort.putRow, Sort.mapBlock, Sort.ahead, Array.getElem?_modify]
  rw [if_neg (fun q => hne q.symm)]
theorem back_run {src dst e : TypeId} {x : Operand} {g c : Nat} {l : List UInt8} (ho : o.op = .convert src dst x) (hx : evl N s x = .slice (some ⟨g, 0, none⟩) l.length c) (hs : P.underlying src = some (.slice e)) (he : P.underlying e = some (.int .u8)) (hd : P.underlying dst = some .string) (hb : (bytesB g l).ok W) :
    (execOp (evl N s) o).run P W = .ok (.value (.string ⟨l.toArray⟩)) W := by
  have hr := run_convert_bytes_back (P := P) W src dst e ⟨g, 0, none⟩ c l hs he hd (fun j hj => by
    have hc := (hb.1 j (by simpa using hj)).1
    have e4 : (⟨g, 0, none⟩ : Addr).add j = ⟨g, 0 + j, none⟩ := by
      unfold Addr.add
      split
      · rename_i q; rw [q]
      · rfl
    rw [e4, hc]
    simp [encB, hj])
  unfold execOp
  simp only [ho, hx]
  simp [Sem.run_bind, Sem.run_pure, hr]
end
end Go.Proofs.YtjhbnkplpaffoaaDoor.Hd
