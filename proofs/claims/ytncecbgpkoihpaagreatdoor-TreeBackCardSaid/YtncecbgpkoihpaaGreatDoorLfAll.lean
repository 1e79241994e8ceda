/- Opening arguments: a slice whose elements are read by a relation. Over any program. -/
import Derived.Test.YtncecbgpkoihpaaGreatDoorBase
import Derived.Test.YtncecbgpkoihpaaGreatDoorTrlEf
import Derived.Test.YtncecbgpkoihpaaGreatDoorTrsO
namespace Go.Proofs.YtncecbgpkoihpaaGreatDoor
open Go.ChangeShapes Go.WideShapes Go.Deep Go.RowKit
section
variable {H : Type} {enc : TypeId × Value → H} {P : Program}
theorem zq7 {α : Type} (C : Cod α) (R : α → DataW H → Prop) {W : World} {t e : TypeId} {fuel : Nat} {v : Value} {x : DataW H × List MemPlace} (ht : P.underlying t = some (.slice e)) (hC : P.cellsOf e = C.size)
 (hread : ∀ (n : Nat) (cs : List Value) (x : DataW H × List MemPlace), DataW.trod enc P W 0 (fun _ => true) true n e cs = some x → ∃ a : α, cs = C.cells a ∧ R a x.1)
 (hf : DataW.trod enc P W 0 (fun _ => true) true fuel t [v] = some x) : ∃ l : List α, Rd C W (· < W.heap.size) v l ∧ ((l = [] ∧ x.1 = .nil) ∨ ∃ ds rest, x.1 = .slice ds rest ∧ ds.length = l.length ∧ ∀ (i : Nat) a d, l[i]? = some a → ds[i]? = some d → R a d) := by
 rcases open_slice ht hf with ⟨hcs, hx⟩ | ⟨a, n0, m, mm, n, D, Pl, hcs, hb, hl, hm, hmm, hx, hi⟩
 · simp only [List.cons.injEq, and_true] at hcs
   subst hcs
   exact ⟨[], Rd.nil_ _ _ _, .inl ⟨rfl, by rw [hx]⟩⟩
 · simp only [List.cons.injEq, and_true] at hcs
   subst hcs
   simp only [if_true] at hmm
   subst hmm
   have hel : ∀ i, i < n0 → ∃ x : α, (∀ j, j < C.size → W.cell? ((a.add (i * C.size)).add j) = (C.cells x)[j]?) ∧ R x (D i) := by
    intro i hin
    obtain ⟨cs', hc, ht'⟩ := hi i (by omega)
    obtain ⟨x, rfl, hr⟩ := hread n cs' _ ht'
    obtain ⟨-, -, hat⟩ := World.cells?_some hc
    rw [hC] at hat
    exact ⟨x, hat, hr⟩
   have hl' : ∃ l : List α, l.length = n0 ∧ ∀ i (hi : i < l.length), (∀ j, j < C.size → W.cell? ((a.add (i * C.size)).add j) = (C.cells l[i])[j]?) ∧ R l[i] (D i) := by
    clear hi hx hl hf
    induction n0 with
    | zero => exact ⟨[], rfl, fun i hi => absurd hi (by simp)⟩
    | succ n0 ih =>
      obtain ⟨l, hl, hh⟩ := ih (fun i hi => hel i (by omega))
      obtain ⟨x, hx⟩ := hel n0 (by omega)
      refine ⟨l ++ [x], by simp [hl], fun i hi => ?_⟩
      by_cases hil : i < l.length
      · rw [List.getElem_append_left hil]; exact hh i hil
      · have : i = n0 := by simp at hi; omega
        subst this
        have e : (l ++ [x])[i]'hi = x := by rw [List.getElem_append_right (by omega)]; simp
        rw [e]
        exact hx
   obtain ⟨l, hll, hcell⟩ := hl'
   subst hll
   refine ⟨l, ⟨some a, mm, rfl, hl, hm, fun h => (by cases h), fun hp => ?_⟩, .inr ⟨_, _, by rw [hx], by simp, fun i x d h1 h2 => ?_⟩⟩
   · have hC0 := C.pos
     have h0 := (hcell 0 hp).1 0 hC0
     have hsome : ∃ u, (C.cells l[0])[0]? = some u := ⟨_, List.getElem?_eq_getElem (by rw [C.len]; exact hC0)⟩
     obtain ⟨u, hu⟩ := hsome
     rw [hu] at h0
     have hspot : a.spot = none := by
      cases hs : a.spot with
      | none => rfl
      | some q =>
        simp only [Nat.zero_mul, Addr.add, if_true, World.cell?, hs] at h0
        split at h0 <;> simp at h0
     obtain ⟨g, off, sp⟩ := a
     simp only at hspot
     subst hspot
     refine ⟨g, off, rfl, ?_, fun j u hu => ?_⟩
     · have := World.block_lt_of_cell? W _ h0
       simpa [Addr.add] using this
     · have hj : j < l.length * C.size := by
        rw [← C.flat_len]
        exact (List.getElem?_eq_some_iff.1 hu).1
       have hq : j / C.size < l.length := Nat.div_lt_of_lt_mul (by rw [Nat.mul_comm]; exact hj)
       have hr : j % C.size < C.size := Nat.mod_lt _ hC0
       have hj2 : j / C.size * C.size + j % C.size = j := by rw [Nat.mul_comm]; exact Nat.div_add_mod j C.size
       have h1 := (hcell (j / C.size) hq).1 (j % C.size) hr
       rw [Addr.add_lit, Addr.add_lit, Nat.add_assoc, hj2] at h1
       rw [h1, ← hu, ← C.flat_at l _ _ hq hr, hj2]
   · have hil := (List.getElem?_eq_some_iff.1 h1).1
     rw [List.getElem?_eq_getElem hil] at h1
     cases h1
     rw [List.getElem?_map, List.getElem?_range hil] at h2
     cases h2
     exact (hcell i hil).2
theorem z3r {e : TypeId} : ∀ {ds : List (DataW H)} {b : Nat}, (DataW.weightsAll P e ds).all (· ≤ b) = true → ∀ d ∈ ds, (d.weights P e).all (· ≤ b) = true
 | [], b, _, d, hd => by cases hd
 | x :: ds, b, h, d, hd => by
   rw [DataW.weightsAll, List.all_append, Bool.and_eq_true] at h
   rcases List.mem_cons.1 hd with rfl | hd
   · exact h.1
   · exact z3r h.2 d hd
theorem len1 {α : Type} : ∀ {l : List α}, l.length = 1 → ∃ a, l = [a]
 | [a], _ => ⟨a, rfl⟩
theorem len7 {α : Type} : ∀ {l : List α}, l.length = 7 → ∃ a b c d e f g, l = [a, b, c, d, e, f, g]
 | [a, b, c, d, e, f, g], _ => ⟨a, b, c, d, e, f, g, rfl⟩
end
end Go.Proofs.YtncecbgpkoihpaaGreatDoor
namespace Go.Proofs.YtncecbgpkoihpaaGreatDoor
open Go.ChangeShapes Go.WideShapes Go.Deep Go.RowKit
section
variable {H : Type} {enc : TypeId × Value → H}
def AtB (a : z07) (d : DataW H) : Prop := ∀ b, (d.weights Tryz.prog 83).all (· ≤ b) = true → a.1.size ≤ b ∧ a.2.size ≤ b
theorem zl2 {W : World} (n : Nat) (cs : List Value) (x : DataW H × List MemPlace) (h : DataW.trod enc Tryz.prog W 0 (fun _ => true) true n 83 cs = some x) : ∃ a : z07, cs = pairC.cells a ∧ AtB a x.1 := by
 have hu := Tryz.underlying83
 obtain ⟨y0, y1, m, rfl, hl, h0, h1⟩ := trod_struct2 hu h
 have hC : Tryz.prog.cellsOf 83 = 2 := by kernel_rfl
 have hS : Tryz.prog.cellsOf 9 = 1 := by kernel_rfl
 rw [hC] at hl
 rw [hS] at h0 h1
 match cs, hl with
 | [c0, c1], _ =>
   obtain ⟨s0, e0, rfl, -⟩ := DataW.trod_string Tryz.underlying9 h0
   obtain ⟨s1, e1, rfl, -⟩ := DataW.trod_string Tryz.underlying9 h1
   simp only [List.drop_zero, List.take_succ_cons, List.take_zero, List.drop_succ_cons, List.cons.injEq, and_true] at e0 e1
   subst e0 e1
   refine ⟨(s0, s1), rfl, fun b hb => ?_⟩
   simp only [DataW.weights, hu, List.map_cons, List.map_nil, DataW.weightsEach, List.append_nil, List.cons_append, List.nil_append, List.all_cons, List.all_nil, Bool.and_true, Bool.and_eq_true, decide_eq_true_eq] at hb
   simpa using hb
structure NdB (W : World) (x : NodeX) (d : DataW H) : Prop where
 rd : zbe W (· < W.heap.size) x
 b : ∀ b, (d.weights Tryz.prog 81).all (· ≤ b) = true → x.v.name.size ≤ b ∧ x.v.text.size ≤ b ∧ x.ats.length ≤ b ∧ ∀ a ∈ x.ats, a.1.size ≤ b ∧ a.2.size ≤ b
def nodeXC : Cod NodeX := ⟨7, fun x => nodeC.cells x.v, fun x => nodeC.len x.v, fun x => nodeC.one x.v, by decide⟩
theorem zl3 {W : World} (n : Nat) (cs : List Value) (x : DataW H × List MemPlace) (h : DataW.trod enc Tryz.prog W 0 (fun _ => true) true n 81 cs = some x) : ∃ y : NodeX, cs = nodeXC.cells y ∧ NdB W y x.1 := by
 have hu := Tryz.underlying81
 obtain ⟨xs, m, -, rfl, hl, hxl, hf⟩ := DataW.trod_struct hu h
 have hC : Tryz.prog.cellsOf 81 = 7 := by kernel_rfl
 have hS : Tryz.prog.cellsOf 9 = 1 := by kernel_rfl
 have hI : Tryz.prog.cellsOf 3 = 1 := by kernel_rfl
 have hA : Tryz.prog.cellsOf 79 = 1 := by kernel_rfl
 rw [hC] at hl
 obtain ⟨c0, c1, c2, c3, c4, c5, c6, rfl⟩ := len7 hl
 obtain ⟨x0, x1, x2, x3, x4, x5, x6, rfl⟩ := len7 hxl
 have f0 : DataW.trod enc Tryz.prog W 0 (fun _ => true) true m 9 ((([c0, c1, c2, c3, c4, c5, c6] : List Value).drop 0).take (Tryz.prog.cellsOf 9)) = some x0 := hf 0 _ rfl
 rw [hS] at f0
 have f1 : DataW.trod enc Tryz.prog W 0 (fun _ => true) true m 79 ((([c0, c1, c2, c3, c4, c5, c6] : List Value).drop 1).take (Tryz.prog.cellsOf 79)) = some x1 := hf 1 _ rfl
 rw [hA] at f1
 have f2 : DataW.trod enc Tryz.prog W 0 (fun _ => true) true m 9 ((([c0, c1, c2, c3, c4, c5, c6] : List Value).drop 2).take (Tryz.prog.cellsOf 9)) = some x2 := hf 2 _ rfl
 rw [hS] at f2
 have f3 : DataW.trod enc Tryz.prog W 0 (fun _ => true) true m 3 ((([c0, c1, c2, c3, c4, c5, c6] : List Value).drop 3).take (Tryz.prog.cellsOf 3)) = some x3 := hf 3 _ rfl
 rw [hI] at f3
 have f4 : DataW.trod enc Tryz.prog W 0 (fun _ => true) true m 3 ((([c0, c1, c2, c3, c4, c5, c6] : List Value).drop 4).take (Tryz.prog.cellsOf 3)) = some x4 := hf 4 _ rfl
 rw [hI] at f4
 have f5 : DataW.trod enc Tryz.prog W 0 (fun _ => true) true m 3 ((([c0, c1, c2, c3, c4, c5, c6] : List Value).drop 5).take (Tryz.prog.cellsOf 3)) = some x5 := hf 5 _ rfl
 rw [hI] at f5
 have f6 : DataW.trod enc Tryz.prog W 0 (fun _ => true) true m 3 ((([c0, c1, c2, c3, c4, c5, c6] : List Value).drop 6).take (Tryz.prog.cellsOf 3)) = some x6 := hf 6 _ rfl
 rw [hI] at f6
 simp only [List.drop_zero, List.take_succ_cons, List.take_zero, List.drop_succ_cons] at f0 f1 f2 f3 f4 f5 f6
 obtain ⟨s0, e0, rfl, -⟩ := DataW.trod_string Tryz.underlying9 f0
 obtain ⟨s2, e2, rfl, -⟩ := DataW.trod_string Tryz.underlying9 f2
 obtain ⟨i3, e3, rfl, -⟩ := DataW.trod_int Tryz.underlying3 f3
 obtain ⟨i4, e4, rfl, -⟩ := DataW.trod_int Tryz.underlying3 f4
 obtain ⟨i5, e5, rfl, -⟩ := DataW.trod_int Tryz.underlying3 f5
 obtain ⟨i6, e6, rfl, -⟩ := DataW.trod_int Tryz.underlying3 f6
 simp only [List.cons.injEq, and_true] at e0 e2 e3 e4 e5 e6
 subst e0 e2 e3 e4 e5 e6
 obtain ⟨ats, hr, hd⟩ := zq7 pairC AtB Tryz.underlying79 (by kernel_rfl) zl2 f1
 have hr2 := hr
 obtain ⟨A, cap, rfl, -⟩ := hr
 refine ⟨⟨⟨s0, A, ats.length, cap, s2, i3, i4, i5, i6⟩, none, ats⟩, rfl, hr2, fun b hb => ?_⟩
 simp only [List.map_cons, List.map_nil, DataW.weights, hu, DataW.weightsEach, List.append_nil, List.cons_append, List.nil_append, List.all_cons, List.all_append, List.all_nil, Bool.and_true, Bool.and_eq_true, decide_eq_true_eq, Array.toList_map] at hb
 obtain ⟨b0, b1, b2⟩ := hb
 refine ⟨by simpa using b0, by simpa using b2, ?_⟩
 rcases hd with ⟨rfl, -⟩ | ⟨ds, rest, hx1, hdl, hda⟩
 · exact ⟨Nat.zero_le _, fun a ha => by cases ha⟩
 · rw [hx1] at b1
   simp only [DataW.weights, Tryz.underlying79, List.all_cons, List.all_append, Bool.and_eq_true, decide_eq_true_eq] at b1
   obtain ⟨b3, b4, -⟩ := b1
   have hB : Tryz.prog.bytesOf 83 = 32 := by kernel_rfl
   rw [hB] at b3
   refine ⟨Nat.le_trans (Nat.le_mul_of_pos_right ats.length (by decide : 0 < 32)) (Nat.le_trans (Nat.mul_le_mul_right 32 (by rw [← hdl]; exact Nat.le_add_right _ _)) b3), fun a ha => ?_⟩
   have ha : a ∈ ats := ha
   obtain ⟨i, hi, rfl⟩ := List.getElem_of_mem ha
   have hid : i < ds.length := by omega
   exact hda i _ ds[i] (List.getElem?_eq_getElem hi) (List.getElem?_eq_getElem hid) b (z3r b4 _ (List.getElem_mem hid))
set_option maxRecDepth 100000 in
theorem zl4 {W : World} {v : Value} {d : DataW H} {p : List MemPlace} {r : Reach} {b0 : Nat} (hv : Value.okWide Tryz.prog W r b0 75 v) (h : DataW.Trod enc Tryz.prog W 0 (fun _ => true) true 75 v d p) :
 ∃ A n c N, v = .agg #[.slice A n c] ∧ Tr N W A n c ∧ ∀ b, (d.weights Tryz.prog 75).all (· ≤ b) = true → ∀ x ∈ N, x.name.size ≤ b ∧ x.text.size ≤ b ∧ x.attrs.length ≤ b ∧ ∀ a ∈ x.attrs, a.1.size ≤ b ∧ a.2.size ≤ b := by
 have hu := Tryz.underlying75
 have hC : Tryz.prog.cellsOf 75 = 1 := by kernel_rfl
 have hC1 : Tryz.prog.cellsOf 73 = 1 := by kernel_rfl
 obtain ⟨cs, rfl, hsz⟩ := okWide_struct hu hv
 obtain ⟨l⟩ := cs
 rw [hC] at hsz
 have hsz2 : l.length = 1 := hsz
 obtain ⟨c0, rfl⟩ := len1 hsz2
 obtain ⟨fuel, hf⟩ := h
 obtain ⟨y0, m, hy, hl, h0⟩ := trod_struct1 hu hf
 rw [hC1] at h0
 have h0' : DataW.trod enc Tryz.prog W 0 (fun _ => true) true m 73 [c0] = some y0 := by simpa [Value.cells] using h0
 obtain ⟨X, hr, hd⟩ := zq7 nodeXC (NdB W) Tryz.underlying73 (by kernel_rfl) zl3 h0'
 have hall : ∀ x ∈ X, zbe W (· < W.heap.size) x := fun x hx => by
  rcases hd with ⟨rfl, -⟩ | ⟨ds, rest, hx1, hdl, hda⟩
  · cases hx
  · obtain ⟨i, hi, rfl⟩ := List.getElem_of_mem hx
    have hid : i < ds.length := by omega
    exact (hda i _ ds[i] (List.getElem?_eq_getElem hi) (List.getElem?_eq_getElem hid)).rd
 have hr1 : Rd nodeC W (· < W.heap.size) c0 (X.map (·.v)) := Aw.rd_of hr (by rw [List.map_map]; rfl)
 have hr2 := hr
 obtain ⟨A, cap, rfl, -⟩ := hr
 refine ⟨A, X.length, cap, X.map (·.model), rfl, ⟨X, (· < W.heap.size), ⟨hr1, hall⟩, fun k hk => hk, rfl⟩, fun b hb x hx => ?_⟩
 simp only [Prod.mk.injEq] at hy
 obtain ⟨rfl, -⟩ := hy
 simp only [DataW.weights, hu, List.map_cons, List.map_nil, DataW.weightsEach, List.append_nil] at hb
 obtain ⟨z, hz, rfl⟩ := List.mem_map.1 hx
 rcases hd with ⟨rfl, -⟩ | ⟨ds, rest, hx1, hdl, hda⟩
 · cases hz
 · obtain ⟨i, hi, rfl⟩ := List.getElem_of_mem hz
   have hid : i < ds.length := by omega
   rw [hx1] at hb
   simp only [DataW.weights, Tryz.underlying73, List.all_cons, List.all_append, Bool.and_eq_true] at hb
   exact (hda i _ ds[i] (List.getElem?_eq_getElem hi) (List.getElem?_eq_getElem hid)).b b (z3r hb.2.1 _ (List.getElem_mem hid))
end
end Go.Proofs.YtncecbgpkoihpaaGreatDoor
