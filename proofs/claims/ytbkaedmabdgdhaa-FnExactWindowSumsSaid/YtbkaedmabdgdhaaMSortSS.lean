/- slices.SortFunc over rows of ints by slices.Compare (laid in the text SortRShelf): the row of rows holds the sorted rows. -/
import Derived.Test.YtbkaedmabdgdhaaSortRShelf
import Derived.Test.YtbkaedmabdgdhaaPWin0
import Derived.Test.YtbkaedmabdgdhaaMSxS
import Derived.Test.YtbkaedmabdgdhaaG0
namespace Go.Proofs.Ytbkaedmabdgdhaa.Hd
open Go.RowKit Go.Proofs.Ytbkaedmabdgdhaa.Pure Go.Proofs.YtbkaedmabdgdhaaW.PrintWords Go.Proofs.YtbkaedmabdgdhaaW.PrintLast Go.Proofs.YtbkaedmabdgdhaaW.PrintMore
set_option linter.unusedVariables false
set_option linter.unusedSimpArgs false
def cmpL : List Int → List Int → Int
  | x :: xs, y :: ys => if x = y then cmpL xs ys else if x < y then -1 else 1
  | [], [] => 0
  | [], _ :: _ => -1
  | _ :: _, [] => 1
theorem cmpL_self : ∀ a : List Int, cmpL a a = 0
  | [] => rfl
  | x :: xs => by simp [cmpL, cmpL_self xs]
theorem cmpL_neg : ∀ {a b : List Int}, (cmpL a b < 0 ↔ 0 < cmpL b a)
  | [], [] => by simp [cmpL]
  | x :: xs, y :: ys => by
    unfold cmpL
    by_cases e : x = y
    · subst e; rw [if_pos rfl, if_pos rfl]; exact cmpL_neg
    · rw [if_neg e, if_neg (Ne.symm e)]
      by_cases c : x < y
      · rw [if_pos c, if_neg (by omega)]; omega
      · rw [if_neg c, if_pos (by omega)]; omega
  | [], _ :: _ => by simp [cmpL]
  | _ :: _, [] => by simp [cmpL]
theorem cmpL_zero : ∀ {a b : List Int}, cmpL a b = 0 → a = b
  | [], [], _ => rfl
  | x :: xs, y :: ys, q => by
    unfold cmpL at q
    by_cases e : x = y
    · subst e; rw [if_pos rfl] at q; rw [cmpL_zero q]
    · rw [if_neg e] at q; split at q <;> omega
  | [], _ :: _, h => by simp [cmpL] at h
  | _ :: _, [], h => by simp [cmpL] at h
theorem cmpL_trans : ∀ {a b c : List Int}, cmpL a b < 0 → cmpL b c < 0 → cmpL a c < 0
  | [], [], _, h1, _ => by simp [cmpL] at h1
  | x :: xs, y :: ys, z :: zs, h1, h2 => by
    unfold cmpL at *
    by_cases e : x = y
    · subst e
      rw [if_pos rfl] at h1
      by_cases e2 : x = z
      · subst e2; rw [if_pos rfl] at h2 ⊢; exact cmpL_trans h1 h2
      · rw [if_neg e2] at h2 ⊢; exact h2
    · rw [if_neg e] at h1
      by_cases e2 : y = z
      · subst e2; rw [if_neg e]; exact h1
      · rw [if_neg e2] at h2
        have c1 : x < y := by split at h1 <;> omega
        have c2 : y < z := by split at h2 <;> omega
        rw [if_neg (by omega), if_pos (by omega)]; omega
  | [], _ :: _, _ :: _, _, _ => by simp [cmpL]
  | [], _ :: _, [], _, h => by simp [cmpL] at h
  | _ :: _, [], _, h, _ => by simp [cmpL] at h
  | _ :: _, _ :: _, [], _, h => by simp [cmpL] at h
theorem cmpL_ntrans {a b c : List Int} (h1 : ¬ cmpL a b < 0) (h2 : ¬ cmpL b c < 0) : ¬ cmpL a c < 0 := by
  intro h
  by_cases k : cmpL b a < 0
  · exact h2 (cmpL_trans k h)
  · have c2 : cmpL a b = 0 := by
      have q := mt cmpL_neg.2 k
      omega
    have := cmpL_zero c2
    rw [this] at h
    exact h2 h
def leL (a b : List Int) : Bool := !decide (cmpL b a < 0)
theorem cmpL_drop {a b : List Int} {i : Nat} (ha : i < a.length) (hb : i < b.length) : cmpL (a.drop i) (b.drop i) = if a[i] = b[i] then cmpL (a.drop (i + 1)) (b.drop (i + 1)) else if a[i] < b[i] then -1 else 1 := by
  rw [List.drop_eq_getElem_cons ha, List.drop_eq_getElem_cons hb]; rfl
theorem cmpInt_is (x y : Int) : cmp_Compare_int.f x y = some (if x < y then -1 else if x > y then 1 else 0) := by
  unfold cmp_Compare_int.f cmp_isNaN_int.f
  by_cases h : x < y
  · simp [h]
  · by_cases h2 : x > y
    · simp [h, h2]
    · simp [h, h2]
theorem compareL_l0 (a b : List Int) (hab : a.length = b.length) (hl : a.length ≤ 1048576) : ∀ (d i : Nat), i + d = a.length → Ev (fun k => slices_Compare_int_int.l0 k a b a (a.length : Int) (i : Int)) (cmpL (a.drop i) (b.drop i)) := by
  intro d
  induction d with
  | zero =>
    intro i hi
    refine Ev.succ ?_
    simp only [slices_Compare_int_int.l0]
    refine Ev.neg (by omega) (Ev.neg (by omega) (Ev.ret ?_))
    rw [List.drop_of_length_le (by omega), List.drop_of_length_le (by omega)]; rfl
  | succ d ih =>
    intro i hi
    have ha : i < a.length := by omega
    have hb : i < b.length := by omega
    refine Ev.succ ?_
    rw [cmpL_drop ha hb]
    simp only [slices_Compare_int_int.l0]
    rw [rd_at ha, rd_at hb, w64' (n := (i : Int) + 1) (m := ((i + 1 : Nat) : Int)) (by omega) (by omega) (by omega)]
    by_cases e : a[i] = b[i]
    · rw [if_pos e]
      refine Ev.pos (by omega) (Ev.pos (by omega) (Ev.pos (by omega) (Ev.neg (by omega) (Ev.pos (by omega) (Ev.bs (cmpInt_is _ _) (Ev.pos ?_ (ih (i + 1) (by omega))))))))
      rw [if_neg (by omega), if_neg (by omega)]
    · rw [if_neg e]
      refine Ev.pos (by omega) (Ev.pos (by omega) (Ev.pos (by omega) (Ev.neg (by omega) (Ev.pos (by omega) (Ev.bs (cmpInt_is _ _) (Ev.neg ?_ (Ev.ret ?_)))))))
      · by_cases h : a[i] < b[i]
        · simp [h]
        · have : a[i] > b[i] := by omega
          simp [h, this]
      · by_cases h : a[i] < b[i]
        · simp [h]
        · have : a[i] > b[i] := by omega
          simp [h, this]
theorem compareL_ev (a b : List Int) (hab : a.length = b.length) (hl : a.length ≤ 1048576) : Ev (fun k => slices_Compare_int_int.f k a b) (cmpL a b) := by
  unfold slices_Compare_int_int.f
  have h := compareL_l0 a b hab hl a.length 0 (by omega)
  simpa using h
/-- A row of rows, its headers, and what they make in another order. -/
theorem S_perm {α : Type} {d : Kd α} (h1 : d.sz = 1) {e base n cap g : Nat} {xs : List α} {W : World} {ok : Nat → Prop} (h : Kd.S d e W base ok (.slice (some ⟨g, 0, none⟩) n cap) xs) :
    ∃ (cur : Array Value) (inner : List Value), n = xs.length ∧ inner.length = xs.length ∧ W.heap[g]? = some (.cells cur e (0, 0)) ∧ xs.length ≤ cur.size ∧ cur.toList.take xs.length = inner ∧
      (∀ (m : Nat) (x : α) (v : Value), xs[m]? = some x → inner[m]? = some v → d.M W base (fun k => ok k ∧ some k ≠ (Value.slice (some ⟨g, 0, none⟩) n cap).ownBlock) x [v]) ∧
      (∀ (W' : World) (p : List Nat) (xs' : List α) (inner' : List Value) (cur' : Array Value), p.Nodup → p.length = xs.length → xs'.length = xs.length → inner'.length = xs.length →
        (∀ m j : Nat, p[m]? = some j → j < xs.length ∧ xs'[m]? = xs[j]? ∧ inner'[m]? = inner[j]?) → (∀ k, k ≠ g → k < W.heap.size → W'.heap[k]? = W.heap[k]?) → W'.heap[g]? = some (.cells cur' e (0, 0)) → cur'.size = cur.size → cur'.toList.take xs.length = inner' →
        Kd.S d e W' base ok (.slice (some ⟨g, 0, none⟩) n cap) xs') := by
  obtain ⟨f, h0, inner, ho, hr⟩ := h
  have hsz : (Kd.tag f d).sz = 1 := h1
  rw [hsz] at ho hr
  rw [List.length_zipIdx] at ho
  obtain ⟨hlen, hq⟩ := ho
  rcases hq with ⟨h2, _⟩ | ⟨g', cap', cur, he, hb, hh, hc, hm, hcs, htk⟩
  · cases h2
  have heq := he
  injection heq with e1 e2 e3
  have e4 : g' = g := by injection e1 with e5; injection e5 with e6; exact e6.symm
  subst e4
  subst e3
  rw [Nat.mul_one] at hlen htk hcs
  refine ⟨cur, inner, e2, by omega, hh, by omega, htk, fun m x v hx hv => ?_, ?_⟩
  · have hold := hr.2 m (x, m) (by rw [List.getElem?_zipIdx, hx]; simp)
    rw [one_at hv] at hold
    exact d.M_mono (fun k hk => hk.1) hold
  intro W' p xs' inner' cur' hpn hpl hxl hil hpt hW hg hcz hct
  refine ⟨fun k => p.idxOf (f k), h0, inner', ?_, ?_⟩
  · show World.ownsRow _ base e (Kd.tag _ d).sz _ _ _
    rw [show (Kd.tag (fun k => p.idxOf (f k)) d).sz = 1 from h1]
    rw [List.length_zipIdx, hxl]
    refine ⟨by omega, .inr ⟨g', _, _, he, hb, hg, hc, hm, by omega, ?_⟩⟩
    rw [Nat.mul_one]; exact hct
  · show Reps _ (Kd.tag _ d).sz _ _
    rw [show (Kd.tag (fun k => p.idxOf (f k)) d).sz = 1 from h1]
    refine ⟨by rw [List.length_zipIdx]; omega, fun m q hq => ?_⟩
    rw [List.getElem?_zipIdx, Nat.zero_add] at hq
    obtain ⟨x, hx, rfl⟩ := Option.map_eq_some_iff.1 hq
    have hm' : m < xs.length := by
      have := (List.getElem?_eq_some_iff.1 hx).1
      omega
    have hmp : m < p.length := by omega
    obtain ⟨hj, hxj, hij⟩ := hpt m p[m] (List.getElem?_eq_getElem hmp)
    have hvi : inner[p[m]]? = some (inner[p[m]]'(by omega)) := List.getElem?_eq_getElem (by omega)
    rw [hvi] at hij
    rw [one_at hij]
    have hold := hr.2 p[m] (x, p[m]) (by rw [List.getElem?_zipIdx, ← hxj, hx]; simp)
    rw [one_at hvi] at hold
    have hmv := (Kd.tag f d).M_step hold (w1 := W') (fun k hk hlt => hW k (fun q => hk.2 (by subst q; rfl)) hlt)
    exact d.M_mono (fun k hk => ⟨hk.1, by show p.idxOf (f k) = m; rw [hk.2]; exact List.Nodup.idxOf_getElem hpn m hmp⟩) hmv
theorem Hp.sortS {w0 W W' : World} {cs : List Chunk} {α : Type} {d : Kd α} {e base : Nat} {v : Value} {l l' : List α} {F : Nat → Prop} (hp : Hp w0 (rowS d e base v l F :: cs) W) (hm : Mv (fun k => v.ownBlock = some k) W W') (hR : Kd.S d e W' base F v l') : ∃ F', Hp w0 (rowS d e base v l' F' :: cs) W' :=
  have hrow := hp.at_ 0 _ rfl
  ⟨F, hp.upd 0 _ (rowS d e base v l' F) rfl (hm.mono (fun k hk => by obtain ⟨f, hf, _⟩ := hrow.1; exact hf k hk)) ⟨hR, fun k hk => Nat.lt_of_lt_of_le (hrow.2 k hk) hm.size⟩ (fun k hk => .inl hk)⟩
section
variable (xs : List (List Int))
def cfS (i j : Fin xs.length) : Int := cmpL xs[i] xs[j]
theorem ltS (i j : Fin xs.length) : ltOf (cfS xs) i j = decide (cmpL xs[i] xs[j] < 0) := rfl
end
theorem swoS {xs : List (List Int)} : Go.Sort.SWO (ltOf (cfS xs)) where
  irrefl x := by rw [ltS, cmpL_self]; rfl
  trans x y z h1 h2 := by
    rw [ltS, decide_eq_true_iff] at *
    exact cmpL_trans h1 h2
  ntrans x y z h1 h2 := by
    rw [ltS, decide_eq_false_iff_not] at *
    exact cmpL_ntrans h1 h2
theorem leS {xs : List (List Int)} (i j : Fin xs.length) : (!(ltOf (cfS xs)) j i) = leL xs[i] xs[j] := by rw [ltS]; rfl
theorem finL (xs : List (List Int)) : (List.ofFn fun i : Fin xs.length => i).map (fun i => xs[i]) = xs := by
  refine List.ext_getElem (by simp) fun i h1 h2 => ?_
  simp
theorem sortedS (xs : List (List Int)) : ((List.ofFn fun i : Fin xs.length => i).mergeSort fun x y => !(ltOf (cfS xs)) y x).map (fun i => xs[i]) = xs.mergeSort leL := by
  rw [List.map_mergeSort (s := leL) (fun a _ b _ => leS a b), finL]
set_option maxHeartbeats 4000000 in
theorem sortS_sx {ei e base n cap : Nat} {A : Option Addr} {xs : List (List Int)} {w : World} {ok : Nat → Prop} {L : Nat} (h : Kd.S (Kd.slice ei (Kd.int .i64)) e w base ok (.slice A n cap) xs) (hx : ∀ x ∈ xs, x.length = L) (hL : L ≤ 1048576) (hnd : xs.Nodup) (hl : xs.length ≤ 8388608) :
    Calls Try.prog 59 #[.slice A n cap, .func (.func 52) #[] #[]] w fun e' w' => e' = .returned (.tuple #[]) ∧ Kd.S (Kd.slice ei (Kd.int .i64)) e w' base ok (.slice A n cap) (xs.mergeSort leL) ∧ Mv (fun k => (Value.slice A n cap).ownBlock = some k) w w' := by
  have hn : n = xs.length := (Kd.S_reads' h).1
  have h00 := h
  by_cases hz : xs.length = 0
  · obtain rfl := List.eq_nil_of_length_eq_zero hz
    have hn0 : n = 0 := hn
    subst hn0
    have hcon := AnyF.slices_SortFunc_none { Try.sortRow with } A cap (.func (.func 52) #[] #[]) w
    change Calls Try.prog 59 _ _ _ at hcon
    refine hcon.mono ?_
    rintro e' w' ⟨rfl, rfl⟩
    exact ⟨rfl, by simpa using h, Mv.refl _ _⟩
  obtain ⟨g, rfl⟩ : ∃ g, A = some ⟨g, 0, none⟩ := by
    obtain ⟨f, h0, inner, ho, hr⟩ := h
    rcases ho.2 with ⟨h2, hn2⟩ | ⟨g, cap', cur, he, _⟩
    · rw [List.length_zipIdx] at hn2; omega
    · injection he with e1 e2 e3
      exact ⟨g, e1⟩
  obtain ⟨cur, inner, hn2, hil, hh, hcz, htk, hM, hre⟩ := S_perm rfl h
  subst hn
  haveI : Inhabited (Fin xs.length) := ⟨⟨0, by omega⟩⟩
  have hlt : g < w.heap.size := (Array.getElem?_eq_some_iff.1 hh).1
  obtain ⟨enc, henc⟩ : ∃ enc : Fin xs.length → Value, enc = fun i => inner[i.1]'(by rw [hil]; exact i.2) := ⟨_, rfl⟩
  obtain ⟨d, hd⟩ : ∃ d : Array (Fin xs.length), d = Array.ofFn fun i : Fin xs.length => i := ⟨_, rfl⟩
  have hds : d.size = xs.length := by rw [hd]; simp
  have hdl : d.toList = List.ofFn fun i : Fin xs.length => i := by rw [hd]; simp
  have hdj : ∀ j (hj : j < xs.length), d[j]! = ⟨j, hj⟩ := fun j hj => by rw [hd]; simp [hj]
  have hhdr : ∀ i : Fin xs.length, ∃ A' c', enc i = .slice A' xs[i].length c' ∧ xs[i].length ≤ c' := fun i => by
    have hm := hM i.1 xs[i] (inner[i.1]'(by rw [hil]; exact i.2)) (List.getElem?_eq_getElem i.2) (List.getElem?_eq_getElem _)
    obtain ⟨A', c', he, hc, hC⟩ := (Kd.slice ei (Kd.int .i64)).K_of_M hm
    injection he with he
    exact ⟨A', c', by rw [henc]; exact he, hc⟩
  have h1c : OneCell enc := fun i => by obtain ⟨A', c', he, _⟩ := hhdr i; rw [he]; rfl
  have hcell : ∀ m (hm : m < xs.length), cur[m]? = some (enc ⟨m, hm⟩) := fun m hm => by
    have q : (cur.toList.take xs.length)[m]? = inner[m]? := by rw [htk]
    rw [List.getElem?_take_of_lt hm, Array.getElem?_toList, List.getElem?_eq_getElem (by omega)] at q
    rw [q, henc]
  have hH : Go.Sort.Holds enc w g 0 d := fun j hj => by
    rw [hds] at hj
    rw [hdj j hj, Nat.zero_add]
    refine ⟨?_, ?_⟩
    · unfold World.cell?; rw [hh]; simpa using hcell j hj
    · unfold World.frozen?; rw [hh]; simp
  have eg : ∀ args w, (callFunc 52 args).run Try.prog w = .ok (.enter 52 args) w := enters_of Try.func52 (by kernel_rfl) rfl
  have hsame : ∀ (m : Nat) (os : Array Obj) (dk : Array (Fin xs.length)), (∀ k, k ≠ g → k < w.heap.size → (sortWorld enc w g 0 m dk os).heap[k]? = w.heap[k]?) ∧ (sortWorld enc w g 0 m dk os).heap[g]? = some (.cells (Go.Sort.putCells enc 0 dk cur) e (0, 0)) ∧ w.heap.size ≤ (sortWorld enc w g 0 m dk os).heap.size := fun m os dk => by
    refine ⟨fun k hk hks => ?_, ?_, ?_⟩
    · show ((w.heap.modify g _) ++ os)[k]? = _
      rw [Array.getElem?_append_left (by simpa using hks), Array.getElem?_modify, if_neg (fun q => hk q.symm)]
    · show ((w.heap.modify g (Go.Sort.onCells (Go.Sort.putCells enc 0 dk))) ++ os)[g]? = _
      rw [Array.getElem?_append_left (by simpa using hlt), Array.getElem?_modify, if_pos rfl, hh]
      rfl
    · show w.heap.size ≤ ((w.heap.modify g _) ++ os).size
      simp
  have hrd : ∀ (m : Nat) (os : Array Obj) (dk : Array (Fin xs.length)) (i : Fin xs.length), ∃ A' c', enc i = .slice A' xs[i].length c' ∧ xs[i].length ≤ c' ∧ Kd.C (Kd.int .i64) (sortWorld enc w g 0 m dk os) A' xs[i].length xs[i] := fun m os dk i => by
    have hm := hM i.1 xs[i] (inner[i.1]'(by rw [hil]; exact i.2)) (List.getElem?_eq_getElem i.2) (List.getElem?_eq_getElem _)
    have hm2 := (Kd.slice ei (Kd.int .i64)).M_step hm (w1 := sortWorld enc w g 0 m dk os) (fun k hk hlt => (hsame m os dk).1 k (fun q => hk.2 (by subst q; rfl)) hlt)
    obtain ⟨A', c', he, hc, hC⟩ := (Kd.slice ei (Kd.int .i64)).K_of_M hm2
    injection he with he
    exact ⟨A', c', by rw [henc]; exact he, hc, hC⟩
  have hcmp : CmpLays1 Try.prog 52 #[] enc (cfS xs) g 0 d.size w := fun m os dk hs x y => by
    obtain ⟨A1, c1, e1, hc1, hC1⟩ := hrd m os dk x
    obtain ⟨A2, c2, e2, hc2, hC2⟩ := hrd m os dk y
    have l1 := hx _ (List.getElem_mem x.2); have l2 := hx _ (List.getElem_mem y.2)
    obtain ⟨k, hk⟩ := (compareL_ev xs[x] xs[y] (l1.trans l2.symm) (by show xs[x.1].length ≤ _; omega)).rounds
    have hc := slices_Compare_int_int.calls k A1 c1 xs[x] A2 c2 xs[y] _ _ hC1 hc1 hC2 hc2 hk
    rw [e1, e2]
    refine hc.mono ?_
    rintro _ w' ⟨rfl, q, hq⟩
    exact ⟨rfl, _, #[], by rw [Go.Sort.grow_empty]; exact hq⟩
  have hcon := Any.slices_SortFunc_total Try.sortRow enc h1c (cfS xs) swoS 52 #[] g 0 cap d w eg hcmp hH hlt (by omega) (fun x y a b => by
    rw [ltS, decide_eq_false_iff_not] at *
    have l1 := hx _ (List.getElem_mem x.2); have l2 := hx _ (List.getElem_mem y.2)
    have l12 : xs[x].length = xs[y].length := l1.trans l2.symm
    have hq := mt (cmpL_neg (a := xs[y]) (b := xs[x])).2 b
    have he := cmpL_zero (a := xs[x]) (b := xs[y]) (by omega)
    exact Fin.ext ((List.getElem_inj hnd).1 he))
  change Calls Try.prog 59 _ _ _ at hcon
  rw [hds, hdl] at hcon
  refine hcon.mono ?_
  rintro e' w' ⟨rfl, nn, os, rfl⟩
  obtain ⟨R, hR⟩ : ∃ R, R = (List.ofFn fun i : Fin xs.length => i).mergeSort fun x y => !(ltOf (cfS xs)) y x := ⟨_, rfl⟩
  rw [← hR]
  have hRx := (sortedS xs).symm
  rw [← hR] at hRx
  have hRl : R.length = xs.length := by rw [hR, List.length_mergeSort]; simp
  have hRn : (R.map fun i => i.1).Nodup := by
    have hp : R.Perm (List.ofFn fun i : Fin xs.length => i) := by rw [hR]; exact List.mergeSort_perm _ _
    have hp2 := hp.map fun i => i.1
    refine hp2.nodup_iff.2 ?_
    have e2 : (List.ofFn fun i : Fin xs.length => i).map (fun i => i.1) = List.range xs.length := List.ext_getElem (by simp) fun i h1 h2 => by simp
    rw [e2]; exact List.nodup_range
  obtain ⟨q1, q2, q3⟩ := hsame nn os R.toArray
  refine ⟨rfl, ?_, ?_⟩
  · refine hre _ (R.map fun i => i.1) _ (R.map enc) (Go.Sort.putCells enc 0 R.toArray cur) hRn (by simp [hRl]) (by rw [List.length_mergeSort]) (by simp [hRl]) ?_ q1 q2 (by unfold Go.Sort.putCells; simp) ?_
    · intro m j hj
      rw [List.getElem?_map] at hj
      obtain ⟨i, hi, rfl⟩ := Option.map_eq_some_iff.1 hj
      refine ⟨i.2, ?_, ?_⟩
      · rw [hRx, List.getElem?_map, hi, List.getElem?_eq_getElem i.2]; rfl
      · rw [List.getElem?_map, hi, List.getElem?_eq_getElem (by rw [hil]; exact i.2), henc]; rfl
    · refine List.ext_getElem? fun j => ?_
      by_cases hj : j < xs.length
      · rw [List.getElem?_take_of_lt hj, Array.getElem?_toList, List.getElem?_map]
        unfold Go.Sort.putCells
        rw [Array.getElem?_mapIdx, Array.getElem?_eq_getElem (show j < cur.size by omega), Option.map_some, if_pos ⟨Nat.zero_le _, by simp [hRl]; omega⟩, Nat.sub_zero, List.getElem?_eq_getElem (show j < R.length by omega)]
        simp [show j < R.length by omega]
      · rw [List.getElem?_eq_none (by rw [List.length_take]; omega), List.getElem?_eq_none (by simp; omega)]
  · exact ⟨rfl, rfl, rfl, q3, fun k hk hne => q1 k (fun q => hne (by subst q; rfl)) hk⟩
end Go.Proofs.Ytbkaedmabdgdhaa.Hd
