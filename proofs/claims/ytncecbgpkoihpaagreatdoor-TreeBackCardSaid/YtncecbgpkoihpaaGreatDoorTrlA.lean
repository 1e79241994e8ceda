/- tree: links, in memory: the places made, the last kids, the open elements. -/
import Derived.Test.YtncecbgpkoihpaaGreatDoorTreNo
import Derived.Test.YtncecbgpkoihpaaGreatDoorTrkAll
import Derived.Deep.MidRow
import Derived.Test.YtncecbgpkoihpaaGreatDoorTreG
namespace Go.Proofs.YtncecbgpkoihpaaGreatDoor
open Go.RowKit Go.Lib
theorem ztj {P : Program} (W : World) (t e : TypeId) {k : Nat} (ht : P.underlying t = some (.slice e)) (hsz : (Go.sizeOf e).run P W = .ok k W) (A : Option Addr) (n c hi : Nat) (h2 : hi ≤ c) :
 (Instr.slice t (.slice A n c) none (some (.int .i64 (hi : Int))) none).run P W = .ok (.slice (if c = 0 then A else A.map (·.add (0 * k))) hi c) W := by
 have h3 : (hi : Int) ≤ c := by omega
 simp [Instr.slice, Instr.sliceBounds, Instr.sliceBound, run_underlying ht, hsz, asIntOf, h3]
 intro h; omega
theorem zs8 (z : Array Value) (n j : Nat) (hj : j < n) (hz : 0 < z.size) : (madeCells z n).toList[j]? = some (z[j % z.size]'(Nat.mod_lt _ hz)) := by
 have hm : j % z.size < z.size := Nat.mod_lt _ hz
 rw [Array.getElem?_toList]
 unfold madeCells
 rw [Array.getElem?_map, Array.getElem?_range, if_pos hj, Option.map_some, getElem!_pos z _ hm]
theorem zpr {α : Type} (C : Cod α) (z : Array Value) (x : α) (hz : z.toList = C.cells x) (n : Nat) : (madeCells z (n * C.size)).toList = C.flat (List.replicate n x) := by
 have hs : z.size = C.size := by rw [← Array.length_toList, hz, C.len]
 refine List.ext_getElem? fun j => ?_
 by_cases hj : j < n * C.size
 · have hp := C.pos
   have hq : j / C.size < n := Nat.div_lt_of_lt_mul (by rw [Nat.mul_comm]; exact hj)
   have hr : j % C.size < C.size := Nat.mod_lt _ hp
   have e : j / C.size * C.size + j % C.size = j := by rw [Nat.mul_comm]; exact Nat.div_add_mod j C.size
   have h1 := C.flat_at (List.replicate n x) (j / C.size) (j % C.size) (by rw [List.length_replicate]; exact hq) hr
   rw [e] at h1
   rw [h1, zs8 z _ j hj (by omega), List.getElem_replicate, ← hz, Array.getElem?_toList, Array.getElem?_eq_getElem (by omega)]
   congr 2
   rw [hs]
 · rw [List.getElem?_eq_none (by rw [Array.length_toList, size_madeCells]; omega), List.getElem?_eq_none (by rw [C.flat_len, List.length_replicate]; omega)]
theorem zi4 {α : Type} {P : Program} {C : Cod α} {t e : TypeId} {bytes : Nat} (hel : El P t e C.size bytes) (x : α) (hx : ∀ i z, P.info? e = some i → i.zero = some z → z.cells.toList = C.cells x) (n : Nat) (hb : bytes * n ≤ 281474976710656) (hn : n ≤ 4611686018427387904) :
 ∃ cur, (∀ W : World, (Instr.makeSlice t (.int .i64 (n : Int)) (.int .i64 (n : Int))).run P W = .ok (.slice (some ⟨W.heap.size, 0, none⟩) n n) (W.alloc (.cells cur e))) ∧ (0 < n → ∀ W : World, Own C (W.alloc (.cells cur e)) e (.slice (some ⟨W.heap.size, 0, none⟩) n n) (some W.heap.size) (List.replicate n x)) := by
 obtain ⟨ht, i, z, hi, hz, h1, h2, h3, h4⟩ := hel
 refine ⟨madeCells z.cells (n * C.size), fun W => ?_, fun h0 W => ?_⟩
 · have := run_make (P := P) W t e i z ht hi hz .i64 .i64 (n : Int) (n : Int) (by omega) (Int.le_refl _) (by rw [h2, ← Int.natCast_mul]; generalize bytes * n = q at hb; omega) (by omega)
   rw [h1, Int.toNat_natCast] at this
   exact this
 · have hl : (List.replicate n x).length = n := List.length_replicate
   have := Own.made C W e (madeCells z.cells (n * C.size)) (List.replicate n x) n h0 (by rw [hl]; exact Nat.le_refl _) (by unfold maxLen; omega) (by rw [size_madeCells]; exact Nat.le_refl _)
    (by rw [zpr C z.cells x (hx i z hi hz) n, hl]
        refine List.take_of_length_le ?_
        rw [C.flat_len, hl]
        exact Nat.le_refl _)
   rw [hl] at this
   exact this
section
variable {α : Type} {C : Cod α} {w : World} {E : TypeId} {A : Option Addr} {n c : Nat} {o : Option Nat} {l : List α}
theorem Own.cut (h : Own C w E (.slice A n c) o l) {k : Nat} (hk : k ≤ l.length) : ∃ o', Own C w E (.slice (if c = 0 then A else A.map (·.add (0 * C.size))) k c) o' (l.take k) ∧ (o' = none ∨ o' = o) := by
 have hl : (l.take k).length = k := by rw [List.length_take]; omega
 rcases h with ⟨A', h1, h2, h3⟩ | ⟨g, off, cap, cur, h1, h2, h3, h4, h5, h6, h7, h8⟩
 · simp only [Value.slice.injEq] at h1
   obtain ⟨rfl, rfl, rfl⟩ := h1
   subst h3
   obtain rfl : k = 0 := by simpa using hk
   exact ⟨none, .inl ⟨_, rfl, rfl, rfl⟩, .inl rfl⟩
 · simp only [Value.slice.injEq] at h1
   obtain ⟨rfl, rfl, rfl⟩ := h1
   refine ⟨o, .inr ⟨g, off, c, cur, ?_, h2, h3, h4, by omega, h6, h7, ?_⟩, .inr rfl⟩
   · rw [hl, if_neg (by omega), Option.map_some, Addr.add_lit, Nat.zero_mul, Nat.add_zero]
   · rw [hl, ← C.flat_take, ← h8, List.take_take, Nat.min_eq_left (Nat.mul_le_mul_right _ hk)]
end
def toV (x : PlM) : NodeV := ⟨⟨#[]⟩, none, 0, 0, ⟨#[]⟩, x.1, x.2.1, x.2.2, 0⟩
def zV : NodeV := ⟨⟨#[]⟩, none, 0, 0, ⟨#[]⟩, 0, 0, 0, 0⟩
theorem zt5 (W : World) : (Go.sizeOf 3).run Tryz.prog W = .ok 1 W := by
 have := Tryz.sizeOf3
 first | exact this W | exact this
theorem zmy : ∀ i z, Tryz.prog.info? 81 = some i → i.zero = some z → z.cells.toList = nodeC.cells zV := by
 intro i z hi hz
 have h : (Tryz.prog.info? 81).map (fun i => i.zero) = some (some (.agg #[.string ⟨#[]⟩, .slice none 0 0, .string ⟨#[]⟩, .int .i64 0, .int .i64 0, .int .i64 0, .int .i64 0])) := by kernel_rfl
 rw [hi, Option.map_some, hz] at h
 simp only [Option.some.injEq] at h
 subst h
 rfl
theorem zps : ∀ i z, Tryz.prog.info? 3 = some i → i.zero = some z → z.cells.toList = intT.cells 0 := by
 intro i z hi hz
 have h : (Tryz.prog.info? 3).map (fun i => i.zero) = some (some (.int .i64 0)) := by kernel_rfl
 rw [hi, Option.map_some, hz] at h
 simp only [Option.some.injEq] at h
 subst h
 rfl
structure LkW (w wr : World) (g t n : Nat) (ov : Value) (oo : Option Nat) (b : LkM) (S : List Nat) : Prop where
 pl : Own nodeC wr 81 (.slice (some ⟨g, 0, none⟩) n n) (some g) (padG toV zV n b.pl)
 la : Own intT wr 3 (.slice (some ⟨t, 0, none⟩) n n) (some t) (padG id 0 n b.last)
 op : Own intT wr 3 ov oo (S.reverse.map Int.ofNat)
 gt : g ≠ t
 og : oo ≠ some g
 ot : oo ≠ some t
 gn : w.heap.size ≤ g
 tn : w.heap.size ≤ t
 on : ∀ k, oo = some k → w.heap.size ≤ k
 fr : Fr (fun _ => False) w wr
namespace LkW
variable {w wr W : World} {g t n : Nat} {ov : Value} {oo : Option Nat} {b : LkM} {S : List Nat}
theorem same (h : LkW w wr g t n ov oo b S) (f : Fr (fun _ => False) wr W) : LkW w W g t n ov oo b S :=
 ⟨h.pl.fr f (fun _ _ h => h), h.la.fr f (fun _ _ h => h), h.op.fr f (fun _ _ h => h), h.gt, h.og, h.ot, h.gn, h.tn, h.on, h.fr.trans f⟩
theorem qg (h : LkW w wr g t n ov oo b S) : g < wr.heap.size ∧ t < wr.heap.size := ⟨h.pl.lt g rfl, h.la.lt t rfl⟩
theorem first (h : LkW w wr g t n ov oo b S) {s : Nat} (hs : s < b.pl.length) (hl : b.pl.length ≤ n) (k : Int) : LkW w (wr.setCell ⟨g, s * 7 + 4, none⟩ (.int .i64 k)) g t n ov oo { b with pl := b.pl.modify s (fstP k) } S := by
 have f := Fr.set_b wr g (s * 7 + 4) (.int .i64 k)
 have hx : s < (padG toV zV n b.pl).length := by rw [z32 hl]; omega
 have h1 := Own.set1 (i := s) (j := 4) h.pl hx (by decide) (u := .int .i64 k) (x' := toV (fstP k b.pl[s])) (by rw [z97 hs hx]; rfl)
 rw [zcm hs, ← z89, Nat.zero_add] at h1
 exact ⟨h1, h.la.fr f (fun j hj e => h.gt (by cases hj; exact e.symm)), h.op.fr f (fun j hj e => h.og (by rw [hj, e])), h.gt, h.og, h.ot, h.gn, h.tn, h.on, h.fr.then_ f (fun j h1 h2 => by have := h.gn; omega)⟩
theorem next (h : LkW w wr g t n ov oo b S) {s : Nat} (hs : s < b.pl.length) (hl : b.pl.length ≤ n) (k : Int) : LkW w (wr.setCell ⟨g, s * 7 + 5, none⟩ (.int .i64 k)) g t n ov oo { b with pl := b.pl.modify s (nxtP k) } S := by
 have f := Fr.set_b wr g (s * 7 + 5) (.int .i64 k)
 have hx : s < (padG toV zV n b.pl).length := by rw [z32 hl]; omega
 have h1 := Own.set1 (i := s) (j := 5) h.pl hx (by decide) (u := .int .i64 k) (x' := toV (nxtP k b.pl[s])) (by rw [z97 hs hx]; rfl)
 rw [zcm hs, ← z89, Nat.zero_add] at h1
 exact ⟨h1, h.la.fr f (fun j hj e => h.gt (by cases hj; exact e.symm)), h.op.fr f (fun j hj e => h.og (by rw [hj, e])), h.gt, h.og, h.ot, h.gn, h.tn, h.on, h.fr.then_ f (fun j h1 h2 => by have := h.gn; omega)⟩
theorem lastS (h : LkW w wr g t n ov oo b S) {s : Nat} (hs : s < b.last.length) (hl : b.last.length ≤ n) (k : Int) : LkW w (wr.setCell ⟨t, s, none⟩ (.int .i64 k)) g t n ov oo { b with last := b.last.set s k } S := by
 have f := Fr.set_b wr t s (.int .i64 k)
 have hx : s < (padG (id : Int → Int) 0 n b.last).length := by rw [z32 hl]; omega
 have h1 := Own.set1 (i := s) (j := 0) h.la hx (by decide) (u := .int .i64 k) (x' := (id k : Int)) (by rfl)
 rw [zcm hs, Nat.zero_add, Nat.add_zero, show intT.size = 1 from rfl, Nat.mul_one] at h1
 exact ⟨h.pl.fr f (fun j hj e => h.gt (by cases hj; exact e)), h1, h.op.fr f (fun j hj e => h.ot (by rw [hj, e])), h.gt, h.og, h.ot, h.gn, h.tn, h.on, h.fr.then_ f (fun j h1 h2 => by have := h.tn; omega)⟩
end LkW
section
variable {w : World} {E : TypeId} {g n cap : Nat}
theorem Own.put7 {T : List NodeV} (h : Own nodeC w E (.slice (some ⟨g, 0, none⟩) n cap) (some g) T) {i : Nat} (hi : i < T.length) (x : NodeV) :
 Own nodeC (((((((w.setCell ⟨g, i * 7, none⟩ (.string x.name)).setCell ⟨g, i * 7 + 1, none⟩ (.slice x.A x.m x.c)).setCell ⟨g, i * 7 + 2, none⟩ (.string x.text)).setCell ⟨g, i * 7 + 3, none⟩ (.int .i64 x.parent)).setCell ⟨g, i * 7 + 4, none⟩ (.int .i64 x.first)).setCell ⟨g, i * 7 + 5, none⟩ (.int .i64 x.next)).setCell ⟨g, i * 7 + 6, none⟩ (.int .i64 x.at_)) E
  (.slice (some ⟨g, 0, none⟩) n cap) (some g) (T.set i x) := by
 have h0 := h.set1 (j := 0) hi (by decide) (u := .string x.name) (x' := { T[i] with name := x.name }) (by rfl)
 have h1 := h0.set1 (i := i) (j := 1) (by simpa using hi) (by decide) (u := .slice x.A x.m x.c) (x' := { T[i] with name := x.name, A := x.A, m := x.m, c := x.c }) (by rw [List.getElem_set_self]; rfl)
 rw [List.set_set] at h1
 have h2 := h1.set1 (i := i) (j := 2) (by simpa using hi) (by decide) (u := .string x.text) (x' := { T[i] with name := x.name, A := x.A, m := x.m, c := x.c, text := x.text }) (by rw [List.getElem_set_self]; rfl)
 rw [List.set_set] at h2
 have h3 := h2.set1 (i := i) (j := 3) (by simpa using hi) (by decide) (u := .int .i64 x.parent) (x' := { T[i] with name := x.name, A := x.A, m := x.m, c := x.c, text := x.text, parent := x.parent }) (by rw [List.getElem_set_self]; rfl)
 rw [List.set_set] at h3
 have h4 := h3.set1 (i := i) (j := 4) (by simpa using hi) (by decide) (u := .int .i64 x.first) (x' := { T[i] with name := x.name, A := x.A, m := x.m, c := x.c, text := x.text, parent := x.parent, first := x.first }) (by rw [List.getElem_set_self]; rfl)
 rw [List.set_set] at h4
 have h5 := h4.set1 (i := i) (j := 5) (by simpa using hi) (by decide) (u := .int .i64 x.next) (x' := { x with at_ := T[i].at_ }) (by rw [List.getElem_set_self]; rfl)
 rw [List.set_set] at h5
 have h6 := h5.set1 (i := i) (j := 6) (by simpa using hi) (by decide) (u := .int .i64 x.at_) (x' := x) (by rw [List.getElem_set_self]; rfl)
 rw [List.set_set] at h6
 simp only [Nat.zero_add, Nat.add_zero, show nodeC.size = 7 from rfl] at h6
 exact h6
end
theorem Own.putC {w : World} {E : TypeId} {g n cap : Nat} {T : List NodeV} (h : Own nodeC w E (.slice (some ⟨g, 0, none⟩) n cap) (some g) T) {i : Nat} (hi : i < T.length) (x : NodeV) :
 Own nodeC (w.setCells g (i * 7) (nodeC.cells x)) E (.slice (some ⟨g, 0, none⟩) n cap) (some g) (T.set i x) := h.put7 hi x
theorem z4z (V : World) (g : Nat) : ∀ (vs : List Value) (o : Nat), Fr (fun j => j = g) V (V.setCells g o vs) := by
 intro vs
 induction vs generalizing V with
 | nil => intro o; exact Fr.refl _ _
 | cons v vs ih => intro o; exact (Fr.set_b V g o v).trans (ih _ (o + 1))
def placeW (V : World) (g t k : Nat) (p : Int) : World := (V.setCells g (k * 7) (nodeC.cells (toV (p, -1, -1)))).setCell ⟨t, k, none⟩ (.int .i64 (-1))
theorem zmz (V : World) (g t k : Nat) (p : Int) : Fr (fun j => j = g ∨ j = t) V (placeW V g t k p) :=
 ((z4z V g _ _).mono (fun _ h => .inl h)).trans ((Fr.set_b _ t k _).mono (fun _ h => .inr h))
theorem LkW.put {w wr : World} {g t n : Nat} {ov : Value} {oo : Option Nat} {b : LkM} {S : List Nat} (h : LkW w wr g t n ov oo b S) (hl : b.pl.length < n) (hl2 : b.last.length = b.pl.length) (p : Int) :
 LkW w (placeW wr g t b.pl.length p) g t n ov oo { b with pl := b.pl ++ [(p, -1, -1)], last := b.last ++ [-1] } S := by
 have hg := h.pl.putC (i := b.pl.length) (by rw [z32 (Nat.le_of_lt hl)]; exact hl) (toV (p, -1, -1))
 rw [zep hl] at hg
 have f := zmz wr g t b.pl.length p
 have fg := z4z wr g (nodeC.cells (toV (p, -1, -1))) (b.pl.length * 7)
 have h1 := Own.set1 (i := b.pl.length) (j := 0) (h.la.fr fg (fun j hj e => h.gt (by cases hj; exact e.symm))) (by rw [z32 (by omega)]; exact hl) (by decide) (u := .int .i64 (-1)) (x' := (id (-1) : Int)) (by rfl)
 rw [← hl2, zep (by omega), hl2, Nat.zero_add, Nat.add_zero, show intT.size = 1 from rfl, Nat.mul_one] at h1
 refine ⟨hg.fr (Fr.set_b _ t _ _) (fun j hj e => h.gt (by cases hj; exact e)), h1, h.op.fr f ?_, h.gt, h.og, h.ot, h.gn, h.tn, h.on, h.fr.then_ f (fun j h1 h2 => ?_)⟩
 · rintro j hj (e | e)
   · exact h.og (by rw [hj, e])
   · exact h.ot (by rw [hj, e])
 · have := h.gn
   have := h.tn
   omega
theorem zpt {α β : Type} {f : α → β} {z : β} {n : Nat} {l : List α} {k : Nat} (hk : l.length ≤ k) (hj : k < (padG f z n l).length) : (padG f z n l)[k] = z := by
 unfold padG at hj ⊢
 rw [List.getElem_append_right (by rw [List.length_map]; exact hk), List.getElem_replicate]
theorem LkW.frz {w wr : World} {g t n : Nat} {ov : Value} {oo : Option Nat} {b : LkM} {S : List Nat} (h : LkW w wr g t n ov oo b S) : (∀ i, wr.frozen? ⟨g, i, none⟩ = false) ∧ (∀ i, wr.frozen? ⟨t, i, none⟩ = false) :=
 ⟨fun i => h.pl.frozen rfl (by simp), fun i => h.la.frozen rfl (by simp)⟩
theorem LkW.last0 {w wr : World} {g t n : Nat} {ov : Value} {oo : Option Nat} {b : LkM} {S : List Nat} (h : LkW w wr g t n ov oo b S) (hl2 : b.last.length ≤ n) {k : Nat} (hk : k < n) (h2 : b.last.length ≤ k) :
 wr.cell? ⟨t, k, none⟩ = some (.int .i64 0) := by
 have hx : k < (padG (id : Int → Int) 0 n b.last).length := by rw [z32 hl2]; exact hk
 obtain ⟨g1, off, cp, hv, -, -, -, hc⟩ := h.la.rd.at_ (i := k) hx
 simp only [Value.slice.injEq, Option.some.injEq, Addr.mk.injEq] at hv
 obtain ⟨⟨rfl, rfl, -⟩, -⟩ := hv
 have h3 := hc 0 (by decide)
 rw [show intT.size = 1 from rfl, Nat.zero_add, Nat.mul_one, Nat.add_zero, zpt h2 hx] at h3
 exact h3
theorem LkW.cell_at {w wr : World} {g t n : Nat} {ov : Value} {oo : Option Nat} {b : LkM} {S : List Nat} (h : LkW w wr g t n ov oo b S) (hl : b.pl.length ≤ n) {s : Nat} (hs : s < b.pl.length) :
 wr.cell? ⟨g, s * 7 + 4, none⟩ = some (.int .i64 b.pl[s].2.1) ∧ wr.cell? ⟨g, s * 7 + 5, none⟩ = some (.int .i64 b.pl[s].2.2) := by
 have hx : s < (padG toV zV n b.pl).length := by rw [z32 hl]; omega
 obtain ⟨g1, off, cp, hv, -, -, -, hc⟩ := h.pl.rd.at_ (i := s) hx
 simp only [Value.slice.injEq, Option.some.injEq, Addr.mk.injEq] at hv
 obtain ⟨⟨rfl, rfl, -⟩, -⟩ := hv
 have h4 := hc 4 (by decide)
 have h5 := hc 5 (by decide)
 rw [Nat.zero_add, z97 hs hx] at h4 h5
 exact ⟨h4, h5⟩
theorem LkW.last_at {w wr : World} {g t n : Nat} {ov : Value} {oo : Option Nat} {b : LkM} {S : List Nat} (h : LkW w wr g t n ov oo b S) (hl2 : b.last.length ≤ n) {s : Nat} (hs : s < b.last.length) :
 wr.cell? ⟨t, s, none⟩ = some (.int .i64 b.last[s]) := by
 have hx : s < (padG (id : Int → Int) 0 n b.last).length := by rw [z32 hl2]; omega
 obtain ⟨g1, off, cp, hv, -, -, -, hc⟩ := h.la.rd.at_ (i := s) hx
 simp only [Value.slice.injEq, Option.some.injEq, Addr.mk.injEq] at hv
 obtain ⟨⟨rfl, rfl, -⟩, -⟩ := hv
 have h1 := hc 0 (by decide)
 rw [show intT.size = 1 from rfl, Nat.zero_add, Nat.mul_one, Nat.add_zero, z97 hs hx] at h1
 exact h1
theorem LkW.push {w V V1 w3 : World} {g t n k : Nat} {ov v3 : Value} {oo o3 : Option Nat} {b : LkM} {S : List Nat} (h : LkW w V g t n ov oo b S) (f : Fr (fun _ => False) V V1) (m3 : Own intT w3 3 v3 o3 (S.reverse.map Int.ofNat ++ [(k : Int)]))
 (g3 : Fr (fun j => oo = some j) V1 w3) (n3 : ∀ j, o3 = some j → oo = some j ∨ (V1.heap.size ≤ j ∧ j < w3.heap.size)) : LkW w w3 g t n v3 o3 b (k :: S) := by
 obtain ⟨q1, q2⟩ := h.qg
 have hs := f.size
 have h0 := h.fr.size
 refine ⟨(h.pl.fr f (fun _ _ h => h)).fr g3 (fun j hj e => h.og (e.trans hj.symm)), (h.la.fr f (fun _ _ h => h)).fr g3 (fun j hj e => h.ot (e.trans hj.symm)), ?_, h.gt, fun e => ?_, fun e => ?_, h.gn, h.tn, fun j hj => ?_, (h.fr.trans f).then_ g3 (fun j h1 h2 => by have := h.on j h2; omega)⟩
 · rw [List.reverse_cons, List.map_append]
   exact m3
 · rcases n3 g e with h1 | h1
   · exact h.og h1
   · omega
 · rcases n3 t e with h1 | h1
   · exact h.ot h1
   · omega
 · rcases n3 j hj with h1 | h1
   · exact h.on j h1
   · omega
theorem LkW.pop {w V : World} {g t n d tl s : Nat} {B : Option Addr} {oo : Option Nat} {b : LkM} {S : List Nat} (h : LkW w V g t n (.slice B tl d) oo b (s :: S)) :
 ∃ BX o', LkW w V g t n (.slice BX S.length d) o' b S ∧ ∀ W : World, (Instr.slice 32 (.slice B tl d) none (some (.int .i64 (S.length : Int))) none).run Tryz.prog W = .ok (.slice BX S.length d) W := by
 have hl : ((s :: S).reverse.map Int.ofNat).length = S.length + 1 := by simp
 obtain ⟨A', c', hv, h1, h2⟩ := h.op.form
 simp only [Value.slice.injEq] at hv
 obtain ⟨rfl, rfl, rfl⟩ := hv
 obtain ⟨o', hc, ho⟩ := h.op.cut (k := S.length) (by rw [hl]; omega)
 have ht : ((s :: S).reverse.map Int.ofNat).take S.length = S.reverse.map Int.ofNat := by
  rw [List.reverse_cons, List.map_append, List.take_left' (by simp)]
 rw [ht] at hc
 refine ⟨_, o', ⟨h.pl, h.la, hc, h.gt, ?_, ?_, h.gn, h.tn, ?_, h.fr⟩, fun W => ?_⟩
 · rcases ho with rfl | rfl
   · simp
   · exact h.og
 · rcases ho with rfl | rfl
   · simp
   · exact h.ot
 · rcases ho with rfl | rfl
   · intro k hk; cases hk
   · exact h.on
 · exact ztj W 32 3 Tryz.underlying32 (zt5 W) _ _ _ _ (by omega)
theorem LkW.top {w V : World} {g t n d tl s : Nat} {B : Option Addr} {oo : Option Nat} {b : LkM} {S : List Nat} (h : LkW w V g t n (.slice B tl d) oo b (s :: S)) :
 ∃ go off, B = some ⟨go, off, none⟩ ∧ V.cell? ⟨go, off + S.length, none⟩ = some (.int .i64 (s : Int)) := by
 have hl : ((s :: S).reverse.map Int.ofNat).length = S.length + 1 := by simp
 obtain ⟨go, off, cp, hv, -, -, -, hc⟩ := h.op.rd.at_ (i := S.length) (by rw [hl]; omega)
 simp only [Value.slice.injEq] at hv
 obtain ⟨rfl, -, -⟩ := hv
 have h1 := hc 0 (by decide)
 rw [show intT.size = 1 from rfl, Nat.mul_one, Nat.add_zero] at h1
 refine ⟨go, off, rfl, h1.trans ?_⟩
 have : ((s :: S).reverse.map Int.ofNat)[S.length]'(by rw [hl]; omega) = (s : Int) := by
  rw [List.getElem_map, List.getElem_reverse]
  simp
 rw [this]
 rfl
theorem z7n (V : World) (g : Nat) : ∀ (vs : List Value) (o : Nat), (V.setCells g o vs).heap.size = V.heap.size := by
 intro vs
 induction vs generalizing V with
 | nil => intro o; rfl
 | cons v vs ih => intro o; exact (ih _ _).trans (by simp)
theorem z2s {P : Program} {ops : Array Oper} {rest : List Oper} {op : Oper} {a : Act} {W V1 : World} {Q : Exit → Act → World → Prop} {ty : TypeId} {x y : Operand} (hgd : op.guard = none) (ho : op.op = .store ty x y)
 {p v : Value} (hx : a.eval x = p) (hy : a.eval y = v) (hst : (Instr.storeAt ty p v).run P W = .ok () V1) (h : wpList P ops Q rest (a.put op.dst undef) V1) : wpList P ops Q (op :: rest) a W :=
 wpList_plain hgd fun _ hK => by
  unfold Oper.wp execOp
  simp only [ho, hx, hy, Sem.run_bind, Sem.run_pure, Result.andThen_ok, hst]
  exact hK _ _ h
theorem zn0 : (Tryz.prog.info? 81).map (·.size) = some 7 := by kernel_rfl
theorem LkW.store {w wr : World} {g t n : Nat} {ov : Value} {oo : Option Nat} {b : LkM} {S : List Nat} (h : LkW w wr g t n ov oo b S) (hl : b.pl.length ≤ n) {k : Nat} (hk : k < n) (p : Int) :
 (Instr.storeAt 81 (.pointer (some ⟨g, k * 7, none⟩)) (.agg #[.string ⟨#[]⟩, .slice none 0 0, .string ⟨#[]⟩, .int .i64 p, .int .i64 (-1), .int .i64 (-1), .int .i64 0])).run Tryz.prog wr = .ok () (wr.setCells g (k * 7) (nodeC.cells (toV (p, -1, -1)))) := by
 refine run_storeAt_mid wr g (k * 7) 81 #[.string ⟨#[]⟩, .slice none 0 0, .string ⟨#[]⟩, .int .i64 p, .int .i64 (-1), .int .i64 (-1), .int .i64 0] (fun j hj => ⟨?_, h.pl.frozen rfl (by simp)⟩) zn0 (all_oneCell_toArray (cs := nodeC.cells (toV (p, -1, -1))) (fun v hv => nodeC.one _ v hv))
 have hx : k < (padG toV zV n b.pl).length := by rw [z32 hl]; exact hk
 obtain ⟨g1, off, cp, hv, -, -, -, hc⟩ := h.pl.rd.at_ (i := k) hx
 simp only [Value.slice.injEq, Option.some.injEq, Addr.mk.injEq] at hv
 obtain ⟨⟨rfl, rfl, -⟩, -⟩ := hv
 have h3 := hc j hj
 rw [Nat.zero_add] at h3
 rw [show k * 7 + j = k * nodeC.size + j from rfl, h3, List.getElem?_eq_getElem (by rw [nodeC.len]; exact hj)]
 rfl
theorem zi5 (V W : World) (hs : W.heap.size = V.heap.size) (k : Int) : Rd intT (W.alloc (.cells #[.int .i64 k] 3)) (fun j => j = V.heap.size) (.slice (some ⟨V.heap.size, 0, none⟩) 1 1) [k] := by
 refine zm1 W k 3 _ _ ?_
 rw [← hs]
 exact heap_alloc_new W _
theorem LkW.of {w V : World} {g t n : Nat} {ov : Value} {oo : Option Nat} {b b' : LkM} {S S' : List Nat} (h : LkW w V g t n ov oo b S) (h1 : b'.pl = b.pl) (h2 : b'.last = b.last) (h3 : S' = S) : LkW w V g t n ov oo b' S' := by
 subst h3
 exact ⟨by rw [h1]; exact h.pl, by rw [h2]; exact h.la, h.op, h.gt, h.og, h.ot, h.gn, h.tn, h.on, h.fr⟩
theorem zn1 (w : World) (o : Obj) (cl ct : Array Value) (o4 : Obj) (n : Nat)
 (h1 : ∀ W : World, Own nodeC (W.alloc (.cells cl 81)) 81 (.slice (some ⟨W.heap.size, 0, none⟩) n n) (some W.heap.size) (List.replicate n zV))
 (h2 : ∀ W : World, Own intT (W.alloc (.cells ct 3)) 3 (.slice (some ⟨W.heap.size, 0, none⟩) n n) (some W.heap.size) (List.replicate n 0)) :
 LkW w ((((w.alloc o).alloc (.cells cl 81)).alloc (.cells ct 3)).alloc o4) (w.heap.size + 1) (w.heap.size + 1 + 1) n (.slice (some ⟨w.heap.size + 1 + 1 + 1, 0, none⟩) 0 0) none lk0 [] := by
 have e1 := h1 (w.alloc o)
 have e2 := h2 ((w.alloc o).alloc (.cells cl 81))
 simp only [World.size_alloc] at e1 e2
 refine ⟨?_, ?_, Own.nil_ _ _ _ _, by omega, by simp, by simp, by omega, by omega, fun k hk => (by cases hk), (((Fr.refl _ _).alloc _).alloc _).alloc _ |>.alloc _⟩
 · rw [show lk0.pl = [] from rfl, zhv]
   exact e1.fr ((((Fr.refl (fun _ => False) _).alloc _)).alloc _) (fun _ _ h => h)
 · rw [show lk0.last = [] from rfl, zhv]
   exact e2.fr ((Fr.refl (fun _ => False) _).alloc _) (fun _ _ h => h)
end Go.Proofs.YtncecbgpkoihpaaGreatDoor
