/- The pool: slices.DeleteFunc at events. -/
import Derived.Test.YthfihlojpmhagaaPool6
namespace Go.Proofs.Ythfihlojpmhagaa
open Go.RowKit
attribute [local go_sem ↓] Go.wp_at_zero Go.wp_at_succ

section
variable {α : Type} {C : Cod α} {w : World} {E : TypeId} {o : Option Nat} {g off n cap : Nat} {l : List α}
theorem Own.raw (h : Own C w E (.slice (some ⟨g, off, none⟩) n cap) (some g) l) : ∃ cur, w.heap[g]? = some (.cells cur E (0, 0)) ∧ 0 < cap ∧ n = l.length ∧ l.length ≤ cap ∧ cap ≤ maxLen ∧ off + cap * C.size ≤ cur.size ∧ ∀ t, t < l.length * C.size → cur[off + t]? = (C.flat l)[t]? := by
  rcases h with ⟨A, h1, h2, h3⟩ | ⟨g', off', cap', cur, h1, h2, h3, h4, h5, h6, h7, h8⟩
  · cases h2
  · simp only [Value.slice.injEq, Option.some.injEq, Addr.mk.injEq] at h1
    obtain ⟨⟨rfl, rfl, -⟩, rfl, rfl⟩ := h1
    refine ⟨cur, h3, h4, rfl, h5, h6, h7, fun t ht => ?_⟩
    rw [← h8, List.getElem?_take, if_pos ht, List.getElem?_drop]
    simp
theorem Own.of_raw {cur : Array Value} (hg : w.heap[g]? = some (.cells cur E (0, 0))) (h0 : 0 < cap) (hl : l.length ≤ cap) (hm : cap ≤ maxLen) (hf : off + cap * C.size ≤ cur.size) (hc : ∀ t, t < l.length * C.size → cur[off + t]? = (C.flat l)[t]?) :
    Own C w E (.slice (some ⟨g, off, none⟩) l.length cap) (some g) l := by
  refine .inr ⟨g, off, cap, cur, rfl, rfl, hg, h0, hl, hm, hf, ?_⟩
  have hle : l.length * C.size ≤ cap * C.size := Nat.mul_le_mul_right _ hl
  apply List.ext_getElem?
  intro t
  rw [List.getElem?_take]
  split
  · rename_i ht
    rw [List.getElem?_drop]
    have := hc t ht
    simpa using this
  · rename_i ht
    rw [List.getElem?_eq_none (by rw [C.flat_len]; omega)]
end

theorem Own.set4 {w : World} {E : TypeId} {g off n cap : Nat} {m : List Ev} (h : Own evC w E (.slice (some ⟨g, off, none⟩) n cap) (some g) m) {i : Nat} (hi : i < m.length) (k : Int) (s : ByteArray) (a t : Int) :
    Own evC ((((w.setCell ⟨g, off + i * 4, none⟩ (.int .u8 k)).setCell ⟨g, off + i * 4 + 1, none⟩ (.string s)).setCell ⟨g, off + i * 4 + 2, none⟩ (.int .i64 a)).setCell ⟨g, off + i * 4 + 3, none⟩ (.int .i64 t)) E (.slice (some ⟨g, off, none⟩) n cap) (some g) (m.set i ⟨k, s, a, t⟩) := by
  obtain ⟨cur, hg, h0, rfl, hl, hm, hf, hc⟩ := h.raw
  have s1 := heap_setCell_same w g (off + i * 4) cur E (.int .u8 k) hg
  have s2 := heap_setCell_same _ g (off + i * 4 + 1) _ E (.string s) s1
  have s3 := heap_setCell_same _ g (off + i * 4 + 2) _ E (.int .i64 a) s2
  have s4 := heap_setCell_same _ g (off + i * 4 + 3) _ E (.int .i64 t) s3
  have hlen : (m.set i ⟨k, s, a, t⟩).length = m.length := by simp
  have hsz : evC.size = 4 := rfl
  rw [← hlen]
  refine Own.of_raw s4 h0 (by rw [hlen]; exact hl) hm (by simpa using hf) fun q hq => ?_
  rw [hlen] at hq
  rw [hsz] at hq hf
  have hq4 : q = (q / 4) * 4 + q % 4 := by omega
  have hr : q % 4 < 4 := by omega
  have hql : q / 4 < m.length := by omega
  have hcs : m.length * 4 ≤ cap * 4 := Nat.mul_le_mul_right _ hl
  have e1 : (evC.flat (m.set i ⟨k, s, a, t⟩))[q]? = (evC.cells ((m.set i ⟨k, s, a, t⟩)[q / 4]'(by rw [hlen]; exact hql)))[q % 4]? := by
    have := evC.flat_at (m.set i ⟨k, s, a, t⟩) (q / 4) (q % 4) (by rw [hlen]; exact hql) hr
    rw [hsz, ← hq4] at this
    exact this
  have e2 : cur[off + q]? = (evC.cells m[q / 4])[q % 4]? := by
    have := evC.flat_at m (q / 4) (q % 4) hql hr
    rw [hsz, ← hq4] at this
    rw [hc q (by rw [hsz]; exact hq), this]
  rw [e1]
  by_cases hqi : q / 4 = i
  · subst hqi
    simp only [List.getElem_set_self]
    generalize q % 4 = r at *
    have h4 : r = 0 ∨ r = 1 ∨ r = 2 ∨ r = 3 := by omega
    have hin : off + q < cur.size := by omega
    rcases h4 with rfl | rfl | rfl | rfl
    · rw [show off + q = off + q / 4 * 4 from by omega]
      simp [Array.getElem?_setIfInBounds, evC]
      omega
    · rw [show off + q = off + q / 4 * 4 + 1 from by omega]
      simp [Array.getElem?_setIfInBounds, evC]
      omega
    · rw [show off + q = off + q / 4 * 4 + 2 from by omega]
      simp [Array.getElem?_setIfInBounds, evC]
      omega
    · rw [show off + q = off + q / 4 * 4 + 3 from by omega]
      simp [Array.getElem?_setIfInBounds, evC]
      omega
  · rw [List.getElem_set_ne (by omega), ← e2]
    rw [Array.getElem?_setIfInBounds_ne (by omega), Array.getElem?_setIfInBounds_ne (by omega), Array.getElem?_setIfInBounds_ne (by omega), Array.getElem?_setIfInBounds_ne (by omega)]

theorem zero_ev (w : World) : (zeroValue 31).run Try.prog w = .ok (.agg #[.int .u8 0, .string ⟨#[]⟩, .int .i64 0, .int .i64 0]) w := by kernel_rfl

/-- clear(s[i:]) -/
theorem run_clear_tail {w : World} {g off n cap i : Nat} {m : List Ev} {ty : TypeId} (h : Own evC w 31 (.slice (some ⟨g, off, none⟩) n cap) (some g) m) (hi : i < n) :
    ∃ w', (Builtin.clear_ #[41] ty #[.slice (some ⟨g, off + i * 4, none⟩) (n - i) (cap - i)]).run Try.prog w = .ok (.tuple #[]) w' ∧ Own evC w' 31 (.slice (some ⟨g, off, none⟩) i cap) (some g) (m.take i) ∧ Fr (fun k => k = g) w w' := by
  obtain ⟨cur, hg, h0, rfl, hl, hm, hf, hc⟩ := h.raw
  have hsz : evC.size = 4 := rfl
  rw [hsz] at hf hc
  have hz : (Builtin.zeroCells (Value.agg #[.int .u8 0, .string ⟨#[]⟩, .int .i64 0, .int .i64 0]).cells (m.length - i)).toList.length = (m.length - i) * 4 := by
    rw [Array.length_toList, size_zeroCells]; rfl
  have h1 : ∀ v ∈ (Builtin.zeroCells (Value.agg #[.int .u8 0, .string ⟨#[]⟩, .int .i64 0, .int .i64 0]).cells (m.length - i)).toList, v.oneCell' = true := by
    intro v hv
    simp only [Builtin.zeroCells, Value.cells, Array.toList_map, List.mem_map] at hv
    obtain ⟨q, hq, rfl⟩ := hv
    have hr : q % 4 < 4 := by omega
    simp only [List.size_toArray, List.length_cons, List.length_nil, Nat.zero_add, Nat.reduceAdd]
    generalize q % 4 = r at *
    have h4 : r = 0 ∨ r = 1 ∨ r = 2 ∨ r = 3 := by omega
    rcases h4 with rfl | rfl | rfl | rfl <;> rfl
  have hst := run_storeCells_at Try.prog g (off + i * 4) 31 (Builtin.zeroCells (Value.agg #[.int .u8 0, .string ⟨#[]⟩, .int .i64 0, .int .i64 0]).cells (m.length - i)).toList 0 cur w hg (by rw [hz]; omega) h1
  obtain ⟨d, hd⟩ : ∃ d, m.length - i = d + 1 := ⟨m.length - i - 1, by omega⟩
  refine ⟨_, ?_, ?_, Fr.setRow (Fr.refl (fun k => k = g) w) (.inl rfl) (cur.toList.take (off + i * 4 + 0) ++ (Builtin.zeroCells (Value.agg #[.int .u8 0, .string ⟨#[]⟩, .int .i64 0, .int .i64 0]).cells (m.length - i)).toList ++ cur.toList.drop (off + i * 4 + 0 + (Builtin.zeroCells (Value.agg #[.int .u8 0, .string ⟨#[]⟩, .int .i64 0, .int .i64 0]).cells (m.length - i)).toList.length)).toArray⟩
  · rw [hd] at hst ⊢
    simp [Builtin.clear_, run_underlying Try.underlying41]
    simp at hst
    rw [hst]
    simp
  · have hlen : (m.take i).length = i := by simp; omega
    have hle : m.length * 4 ≤ cap * 4 := Nat.mul_le_mul_right _ hl
    have hil : i * 4 ≤ m.length * 4 := Nat.mul_le_mul_right _ (by omega)
    have hh := setRow_heap w g cur (cur.toList.take (off + i * 4 + 0) ++ (Builtin.zeroCells (Value.agg #[.int .u8 0, .string ⟨#[]⟩, .int .i64 0, .int .i64 0]).cells (m.length - i)).toList ++ cur.toList.drop (off + i * 4 + 0 + (Builtin.zeroCells (Value.agg #[.int .u8 0, .string ⟨#[]⟩, .int .i64 0, .int .i64 0]).cells (m.length - i)).toList.length)).toArray 31 _ hg
    have hown := Own.of_raw (C := evC) (l := m.take i) (off := off) hh h0 (by omega) hm (by
      simp only [List.size_toArray, List.length_append, List.length_take, List.length_drop, Array.length_toList, hsz] at hz ⊢
      rw [Array.length_toList] at hz
      omega) (fun q hq => by
      rw [hlen, hsz] at hq
      rw [List.getElem?_toArray, List.getElem?_append_left (by
        simp only [List.length_append, List.length_take, Array.length_toList]
        omega), List.getElem?_append_left (by
        simp only [List.length_take, Array.length_toList]
        omega), List.getElem?_take, if_pos (by omega)]
      have := hc q (by omega)
      rw [Array.getElem?_toList, this, ← evC.flat_take m i, List.getElem?_take, if_pos (by rw [hsz]; exact hq)])
    rw [hlen] at hown
    exact hown

theorem wp_clear_run {P : Program} {w : World} {o : Oper} {a : Act} {K : Act → World → Prop} {Q : Exit → Act → World → Prop} {x : Operand} {t : TypeId}
    (ho : o.op = .call { callee := .builtin .clear, args := #[x], argTypes := #[t] }) {vx : Value} (hx : a.eval x = vx)
    {v' : Value} {w' : World} (hr : (Builtin.clear_ #[t] o.type #[vx]).run P w = .ok v' w') (h : K (a.put o.dst v') w') : o.wp P a w K Q := by
  unfold Oper.wp execOp
  simp only [ho, resolve, invoke, builtin, Sem.run_bind, Sem.run_pure, Result.andThen_ok, List.map_toArray, List.map_cons, List.map_nil, hx, hr]
  exact h
theorem wpList_clear_run {P : Program} {w : World} {ops : Array Oper} {rest : List Oper} {o : Oper} {a : Act} {Q : Exit → Act → World → Prop} (hgd : o.guard = none) {x : Operand} {t : TypeId}
    (ho : o.op = .call { callee := .builtin .clear, args := #[x], argTypes := #[t] }) {vx : Value} (hx : a.eval x = vx)
    {v' : Value} {w' : World} (hr : (Builtin.clear_ #[t] o.type #[vx]).run P w = .ok v' w') (h : wpList P ops Q rest (a.put o.dst v') w') : wpList P ops Q (o :: rest) a w :=
  wpList_plain hgd fun _ hK => wp_clear_run ho hx hr (hK _ _ h)

/-- what DeleteFunc leaves -/
def Deletes (w : World) (o : Option Nat) (l : List Ev) (e : Ending) (w' : World) : Prop :=
  ∃ A cap o', e = .returned (.slice A l.length cap) ∧ Own evC w' 31 (.slice A l.length cap) o' l ∧ (o' = none ∨ o' = o) ∧ Fr (fun k => o = some k) w w'

theorem firstOf_some {kd pl : Int} {l : List Ev} (h : l.findIdx? (isOf kd pl) = none) : l.filter (fun x => !isOf kd pl x) = l := by
  rw [List.findIdx?_eq_none_iff] at h
  rw [List.filter_eq_self]
  intro x hx
  simp [h x hx]

set_option maxHeartbeats 2000000 in
theorem deleteF_any (g1 g2 : Nat) (kd pl : Int) (v : Value) (o : Option Nat) (l : List Ev) (w : World) (h1 : w.cell? ⟨g1, 0, none⟩ = some (.int .u8 kd)) (h2 : w.cell? ⟨g2, 0, none⟩ = some (.int .i64 pl))
    (h : Own evC w 31 v o l) (ho1 : o ≠ some g1) (ho2 : o ≠ some g2) (hl : l.length ≤ 1000000) :
    Calls Try.prog 40 #[v, closV g1 g2] w (Deletes w o (l.filter fun x => !isOf kd pl x)) := by
  have hw1 : g1 < w.heap.size := World.block_lt_of_cell? w _ h1
  have hw2 : g2 < w.heap.size := World.block_lt_of_cell? w _ h2
  have HI := hide (indexF_any g1 g2 kd pl (fun k => o = some k) v l w h1 h2 h.rd h.lt hl)
  cases hfi : l.findIdx? (isOf kd pl) with
  | none =>
    have hfo : firstOf kd pl l = -1 := by simp [firstOf, hfi]
    rw [firstOf_some hfi]
    rw [hfo] at HI
    obtain ⟨A, cap, rfl, -⟩ := h.form
    have H := hide h
    unfold closV at HI ⊢
    clear h h1 h2 hfo hfi
    go_enter Try.func40, Try.ntmps40
    go_wp2_with fail
    refine HI.out.mono ?_
    rintro e w1 ⟨rfl, hb1⟩
    have HB := hide hb1
    clear hb1
    go_wp2_with fail
    go_ret
    have hf := Fr.of_below' HB.out
    exact ⟨A, cap, o, rfl, H.out.fr hf (fun _ _ h => h), .inr rfl, hf.mono fun _ h => h.elim⟩
  | some k =>
    have hfo : firstOf kd pl l = (k : Int) := by simp [firstOf, hfi]
    rw [hfo] at HI
    rw [List.findIdx?_eq_some_iff_getElem] at hfi
    obtain ⟨hkl, hpk, hpre⟩ := hfi
    have hm0 : (l.take (k + 1)).filter (fun x => !isOf kd pl x) = l.take k := by
      rw [List.take_add_one, List.getElem?_eq_getElem hkl, Option.toList_some, List.filter_append, List.filter_cons, if_neg (by simpa using hpk), List.filter_nil, List.append_nil, List.filter_eq_self]
      intro x hx
      obtain ⟨q, hq, rfl⟩ := List.mem_take_iff_getElem.1 hx
      have := hpre q (by omega)
      simpa using this
    obtain ⟨A, cap, hv, hlc, hcm⟩ := h.form
    have hrd := h.rd
    obtain ⟨g, off, cap', hv2, -, -, hog, -⟩ := hrd.at_ hkl
    rw [hv] at hv2
    simp only [Value.slice.injEq, true_and] at hv2
    obtain ⟨rfl, rfl⟩ := hv2
    subst hv
    subst hog
    have hg1 : ¬ g = g1 := fun e => ho1 (by rw [e])
    have hg2 : ¬ g = g2 := fun e => ho2 (by rw [e])
    have hgw : g < w.heap.size := h.lt g rfl
    have H := hide h
    have HM0 := hide hm0
    have H12 := hide (And.intro h1 h2)
    unfold closV at HI ⊢
    unfold maxLen at hcm
    clear h h1 h2 hfo hpk hpre hm0 hrd ho1 ho2
    go_enter Try.func40, Try.ntmps40
    go_wp2_with fail
    refine HI.out.mono ?_
    rintro e w0 ⟨rfl, hb0⟩
    have hk1 : ((k : Int) == -1) = false := by simp
    have HF0 := hide (Fr.of_below' hb0)
    clear hb0
    go_wp2_with fail
    go_loopw [5, 6] (fun i j wr => ∃ a b : Nat, ∃ m : List Ev, a < b ∧ b ≤ l.length ∧ i = .int .i64 a ∧ j = .int .i64 b ∧ Hid (Own evC wr 31 (.slice (some ⟨g, off, none⟩) l.length cap) (some g) m ∧ m.length = l.length ∧ m.take a = (l.take b).filter (fun x => !isOf kd pl x) ∧ m.drop b = l.drop b) ∧ Hid (Fr (fun k => some g = some k) w wr)) (fun _ j _ => l.length - (intOf j).toNat)
    case atStart => exact ⟨k, k + 1, l, by omega, by omega, rfl, by go_num, ⟨H.out.fr HF0.out (fun _ _ h => h), rfl, HM0.out.symm, rfl⟩, HF0.out.mono fun _ h => h.elim⟩
    case round =>
      obtain ⟨a, b, m, hab, hbl, rfl, rfl, hm, hfr⟩ := hrel
      by_cases hlt : b < l.length
      · have hlm : b < m.length := by rw [hm.out.2.1]; exact hlt
        have ham : a < m.length := by omega
        have hmb : m[b] = l[b] := by
          have := congrArg (·[0]?) hm.out.2.2.2
          simpa [List.getElem?_drop, List.getElem?_eq_getElem hlm, List.getElem?_eq_getElem hlt] using this
        obtain ⟨g', off', cap', hv, -, -, -, hc⟩ := hm.out.1.rd.at_ hlm
        obtain ⟨g'', off'', cap'', hv', -, -, -, hc'⟩ := hm.out.1.rd.at_ ham
        simp only [Value.slice.injEq, Option.some.injEq, Addr.mk.injEq] at hv hv'
        obtain ⟨⟨rfl, rfl, -⟩, -, rfl⟩ := hv
        obtain ⟨⟨rfl, rfl, -⟩, -, rfl⟩ := hv'
        have q0 := hc 0 (by decide)
        have q1 := hc 1 (by decide)
        have q2 := hc 2 (by decide)
        have q3 := hc 3 (by decide)
        have r0 := hc' 0 (by decide)
        have r1 := hc' 1 (by decide)
        have r2 := hc' 2 (by decide)
        have r3 := hc' 3 (by decide)
        rw [hmb] at q0 q1 q2 q3
        have htk : (l.take (b + 1)).filter (fun x => !isOf kd pl x) = (l.take b).filter (fun x => !isOf kd pl x) ++ (if isOf kd pl l[b] then [] else [l[b]]) := by
          rw [List.take_add_one, List.getElem?_eq_getElem hlt, Option.toList_some, List.filter_append, List.filter_cons]
          cases isOf kd pl l[b] <;> simp
        have HTK := hide htk
        clear htk
        generalize l[b] = x at *
        generalize m[a] = y at *
        obtain ⟨ek, en, ea, et⟩ := x
        simp only [evC, Nat.add_zero, List.getElem?_cons_zero, List.getElem?_cons_succ, ← Nat.add_assoc] at q0 q1 q2 q3 r0 r1 r2 r3
        have p1 := (hfr.out.cell (p := ⟨g1, 0, none⟩) hw1 (fun e => hg1 (by injection e))).trans H12.out.1
        have p2 := (hfr.out.cell (p := ⟨g2, 0, none⟩) hw2 (fun e => hg2 (by injection e))).trans H12.out.2
        have hgr : g < wr.heap.size := Nat.lt_of_lt_of_le hgw hfr.out.size
        have hw1r : g1 < wr.heap.size := Nat.lt_of_lt_of_le hw1 hfr.out.size
        have hw2r : g2 < wr.heap.size := Nat.lt_of_lt_of_le hw2 hfr.out.size
        have HR := hide (And.intro r0 (And.intro r1 (And.intro r2 r3)))
        clear hc hc' hmb r0 r1 r2 r3
        go_wp2_with fail
        refine (gone1_any g1 g2 kd pl ek en ea et _ (((Fr.alloc (Fr.refl (fun _ => False) wr) _).cell (p := ⟨g1, 0, none⟩) hw1r (fun h => h)).trans p1) (((Fr.alloc (Fr.refl (fun _ => False) wr) _).cell (p := ⟨g2, 0, none⟩) hw2r (fun h => h)).trans p2)).mono ?_
        rintro e w1 ⟨rfl, hb1⟩
        obtain ⟨y0, y1, y2, y3⟩ := ev_cells ((hb1.block wr.heap.size (by simp)).trans (heap_alloc_new wr _))
        have f1 : Fr (fun _ => False) wr w1 := (Fr.alloc (Fr.refl _ _) _).trans (Fr.of_below' hb1)
        have s0 := (f1.cell (p := ⟨g, off + a * 4, none⟩) hgr (fun h => h)).trans HR.out.1
        have s1 := (f1.cell (p := ⟨g, off + a * 4 + 1, none⟩) hgr (fun h => h)).trans HR.out.2.1
        have s2 := (f1.cell (p := ⟨g, off + a * 4 + 2, none⟩) hgr (fun h => h)).trans HR.out.2.2.1
        have s3 := (f1.cell (p := ⟨g, off + a * 4 + 3, none⟩) hgr (fun h => h)).trans HR.out.2.2.2
        have z : ∀ q, w1.frozen? ⟨g, q, none⟩ = false := fun q => (f1.frozen (p := ⟨g, q, none⟩) hgr (fun h => h)).trans (hm.out.1.frozen rfl (by simp))
        have z0 := z (off + a * 4)
        have z1 := z (off + a * 4 + 1)
        have z2 := z (off + a * 4 + 2)
        have z3 := z (off + a * 4 + 3)
        have hlw : wr.heap.size < w1.heap.size := by have := hb1.size; simp at this; omega
        have F1 := hide f1
        have HI' := hide (rfl : isOf kd pl ⟨ek, en, ea, et⟩ = isOf kd pl ⟨ek, en, ea, et⟩)
        clear hb1 f1 z q0 q1 q2 q3 p1 p2
        cases hb : isOf kd pl ⟨ek, en, ea, et⟩ with
        | true =>
          rw [hb] at HTK
          clear hb HI'
          go_wp2_with fail
          go_roundw
          case rel =>
            refine ⟨a, b + 1, m, by omega, by omega, rfl, by go_num, ⟨hm.out.1.fr F1.out (fun _ _ h => h), hm.out.2.1, ?_, ?_⟩, hfr.out.trans (F1.out.mono fun _ h => h.elim)⟩
            · rw [HTK.out]; simpa using hm.out.2.2.1
            · rw [← List.drop_drop, hm.out.2.2.2, List.drop_drop]
          case measure => simp [intOf]; omega
        | false =>
          rw [hb] at HTK
          clear hb HI'
          go_wp2_with fail
          go_roundw
          case rel =>
            refine ⟨a + 1, b + 1, m.set a ⟨ek, en, ea, et⟩, by omega, by omega, by go_num, by go_num, ⟨(hm.out.1.fr F1.out (fun _ _ h => h)).set4 ham ek en ea et, by rw [List.length_set]; exact hm.out.2.1, ?_, ?_⟩, ?_⟩
            · rw [HTK.out, ← hm.out.2.2.1, List.take_add_one, List.getElem?_set_self ham, List.take_set_of_le (Nat.le_refl _)]
              simp
            · rw [List.drop_set_of_lt (by omega), ← List.drop_drop, hm.out.2.2.2, List.drop_drop]
            · exact (((((hfr.out.trans (F1.out.mono fun _ h => h.elim)).setCell (p := ⟨g, off + a * 4, none⟩) (.inl rfl) _).setCell (p := ⟨g, off + a * 4 + 1, none⟩) (.inl rfl) _).setCell (p := ⟨g, off + a * 4 + 2, none⟩) (.inl rfl) _).setCell (p := ⟨g, off + a * 4 + 3, none⟩) (.inl rfl) _)
          case measure => simp [intOf]; omega
      · have hbl' : b = l.length := by omega
        subst hbl'
        have hml := hm.out.2.1
        have htk := hm.out.2.2.1
        rw [List.take_of_length_le (Nat.le_refl _)] at htk
        have hle : a ≤ m.length := by omega
        obtain ⟨w2, hrun, hown, hf2⟩ := run_clear_tail (ty := 0) hm.out.1 hab
        go_wp2_with fail
        go_ret
        have hla : (l.filter (fun x => !isOf kd pl x)).length = a := by rw [← htk, List.length_take]; omega
        rw [htk] at hown
        refine ⟨some ⟨g, off, none⟩, cap, some g, by rw [hla]; rfl, by rw [hla]; exact hown, .inr rfl, ?_⟩
        exact hfr.out.trans (hf2.mono fun k h => by rw [h])
end Go.Proofs.Ythfihlojpmhagaa
