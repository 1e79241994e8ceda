/- tree: the law's few. -/
import Derived.Test.YtncecbgpkoihpaaGreatDoorTrlEf
import Derived.BigRegion
namespace Go.Proofs.YtncecbgpkoihpaaGreatDoor
open Go.RowKit Go.Lib
attribute [local go_sem ↓] Go.wp_at_zero Go.wp_at_succ
def z7q : List z07 → Nat
 | [] => 0
 | a :: l => a.1.size + a.2.size + z7q l
def fewW (x : NodeM) : Nat := x.name.size + x.text.size + 9 * x.attrs.length + z7q (x.attrs.take 40)
def z0n : List NodeM → Nat
 | [] => 0
 | x :: l => fewW x + z0n l
def fewM (N : List NodeM) : Bool := decide (N.length ≤ 60) && decide (z0n N ≤ 4000)
theorem zgl {N : List NodeM} {k : Nat} (h : k < N.length) : z0n (N.drop k) = fewW N[k] + z0n (N.drop (k + 1)) := by
 rw [List.drop_eq_getElem_cons h, z0n]
theorem zjk {L : List z07} {k : Nat} (h : k < L.length) : z7q (L.drop k) = L[k].1.size + L[k].2.size + z7q (L.drop (k + 1)) := by
 rw [List.drop_eq_getElem_cons h, z7q]
set_option maxRecDepth 100000 in
set_option maxHeartbeats 8000000 in
theorem zs9 {N : List NodeM} {A : Option Addr} {n c : Nat} (w : World) (h : Tr N w A n c) (hbf : N.length ≤ 60 → z0n N ≤ 4611686018427387904) :
 Calls Tryz.prog 45 #[.agg #[.slice A n c]] w fun e w' => e = .returned (.bool (fewM N)) ∧ Fr (fun _ => False) w w' := by
 have hlen := h.len
 obtain ⟨X, S, hrd, hS, hX⟩ := h
 have hXn : X.length = n := by rw [← hlen, ← hX, List.length_map]
 have fa : Fr (fun _ => False) w (w.alloc (.cells #[.slice A n c] 75)) := Fr.alloc (Fr.refl _ _) _
 have hb0 := heap_alloc_new w (.cells #[.slice A n c] 75)
 have HBX := hide (fun (W : World) (f : Fr (fun _ => False) (w.alloc (.cells #[.slice A n c] 75)) W) => show W.cell? ⟨w.heap.size, 0, none⟩ = some (.slice A n c) from by
  rw [f.cell (by simp) (fun h => h), cell_of_row _ _ _ _ _ _ hb0]; rfl)
 have FA := hide fa
 have hfw : fewM N = (decide (n ≤ 60) && decide (z0n N ≤ 4000)) := by unfold fewM; rw [hlen]
 rw [hfw]
 have b0 := HBX.out _ (Fr.refl _ _)
 by_cases h60 : n ≤ 60
 · rw [decide_eq_true h60, Bool.true_and]
   have hb := hbf (by rw [hlen]; exact h60)
   clear hbf
   have h61 : ¬ (60 : Int) < n := by omega
   have h62 : ¬ 60 < n := by omega
   have HRD := hide (hrd.fr fa (fun k hk => ⟨hS k hk, fun h => h⟩))
   have HS := hide (fun k hk => Nat.lt_of_lt_of_le (hS k hk) fa.size)
   have HN := hide hlen
   have HX := hide hX
   have HXN := hide hXn
   have HB := hide hb
   clear hfw hrd hS hlen hX hXn fa hb0
   go_enter Tryz.func45, Tryz.ntmps45
   go_wp2_with fail
   clear b0
   generalize w.alloc (.cells #[.slice A n c] 75) = W0 at *
   go_loopw [3, 4] (fun sv iv wr => ∃ (k s : Nat), sv = .int .i64 s ∧ iv = .int .i64 k ∧ k ≤ n ∧ Hid (s + z0n (N.drop k) = z0n N) ∧ Hid (Fr (fun _ => False) W0 wr)) (fun _ iv _ => n - (Go.RowKit.intOf iv).toNat)
   case atStart => exact ⟨0, 0, rfl, rfl, Nat.zero_le _, hide (by rw [List.drop_zero, Nat.zero_add]), hide (Fr.refl _ _)⟩
   case round =>
    obtain ⟨k, s, rfl, rfl, hk, hs, hfr⟩ := hrel
    have b1 := HBX.out wr hfr.out
    by_cases hlt : k < n
    · have hki : (k : Int) < n := by omega
      have hkX : k < X.length := by rw [HXN.out]; exact hlt
      have hkN : k < N.length := by rw [HN.out]; exact hlt
      have HAW := HRD.out.fr hfr.out (fun k hk => ⟨HS.out k hk, fun h => h⟩)
      obtain ⟨g, off, cp, hv, -, -, hg, hc⟩ := HAW.rd.at_ (i := k) (by simpa using hkX)
      simp only [Value.slice.injEq] at hv
      obtain ⟨rfl, -, rfl⟩ := hv
      have q0 := hc 0 (by decide)
      have q1 := hc 1 (by decide)
      have q2 := hc 2 (by decide)
      have q3 := hc 3 (by decide)
      have q4 := hc 4 (by decide)
      have q5 := hc 5 (by decide)
      have q6 := hc 6 (by decide)
      rw [List.getElem_map] at q0 q1 q2 q3 q4 q5 q6
      have hox := HAW.ok _ (List.getElem_mem hkX)
      have hnx : N[k] = X[k].model := by have := HX.out; subst this; rw [List.getElem_map]
      have hss := hs.out
      rw [zgl hkN, hnx] at hss
      generalize X[k] = x at *
      have HCX := hide (zcr wr x.v)
      obtain ⟨⟨xn, xA, xm, xc, xt, xp, xf, xe, xa⟩, xo, xs⟩ := x
      have hox : Rd pairC wr S (.slice xA xm xc) xs := hox
      obtain ⟨hlx, hx63⟩ := hox.lenT
      have hfx : fewW (NodeX.model ⟨⟨xn, xA, xm, xc, xt, xp, xf, xe, xa⟩, xo, xs⟩) = xn.size + xt.size + 9 * xm + z7q (xs.take 40) := by unfold fewW NodeX.model; rw [← hlx]
      rw [hfx] at hss
      simp only [nodeC, Nat.add_zero, List.getElem?_cons_zero, List.getElem?_cons_succ, ← Nat.add_assoc] at q0 q1 q2 q3 q4 q5 q6 HCX
      have hbd := HB.out
      have z1 : xn.size ≤ 4611686018427387904 := by omega
      have z2 : xt.size ≤ 4611686018427387904 := by omega
      have z3 : xm ≤ 512409557603043100 := by omega
      have z4 : s ≤ 4611686018427387904 := by omega
      have z5 : s + xn.size + xt.size + 9 * xm ≤ 4611686018427387904 := by omega
      obtain ⟨x0, x1, x2, x3, x4, x5, x6⟩ := HCX.out _ (Fr.refl _ _)
      have HHS := hide hss
      have fal := Fr.alloc (Fr.refl (fun _ => False) wr) (.cells #[.string xn, .slice xA xm xc, .string xt, .int .i64 xp, .int .i64 xf, .int .i64 xe, .int .i64 xa] 81)
      have HOX := hide (hox.fr fal (fun k hk => ⟨Nat.lt_of_lt_of_le (HS.out k hk) hfr.out.size, fun h => h⟩))
      have HSS := hide (fun k hk => Nat.lt_of_lt_of_le (HS.out k hk) (Nat.le_trans hfr.out.size fal.size))
      have HF := hide (hfr.out.trans fal)
      have HLX := hide hlx
      clear hc hg HAW hkX hkN hnx hss hox hfx hbd fal hlx hs
      go_wp2_with fail
      have HXB := hide (fun (W : World) (f : Fr (fun _ => False) (wr.alloc (.cells #[.string xn, .slice xA xm xc, .string xt, .int .i64 xp, .int .i64 xf, .int .i64 xe, .int .i64 xa] 81)) W) => (HCX.out W f).2.1)
      clear x0 x1 x2 x3 x4 x5 x6 HCX q0 q1 q2 q3 q4 q5 q6
      generalize (wr.alloc (.cells #[.string xn, .slice xA xm xc, .string xt, .int .i64 xp, .int .i64 xf, .int .i64 xe, .int .i64 xa] 81)) = W1 at *
      generalize wr.heap.size = q at *
      obtain ⟨L, hL⟩ : ∃ L, xs.take 40 = L := ⟨_, rfl⟩
      rw [hL] at HHS
      have hLl : L.length = min 40 xm := by rw [← hL, List.length_take, HLX.out]
      have HLL := hide hLl
      have HTK := hide hL
      have hs0 : (s : Int) + xn.size + xt.size + 9 * xm = ((s + xn.size + xt.size + 9 * xm : Nat) : Int) := by omega
      rw [hs0]
      generalize hs1 : s + xn.size + xt.size + 9 * xm = s1 at *
      have HST := hide (show s1 + z7q (L.drop 0) + z0n (N.drop (k + 1)) = z0n N from by rw [← HHS.out, List.drop_zero]; omega)
      clear hs0 hL hLl
      go_loopw [3, 6] (fun sv jv wr => ∃ (j s2 : Nat), sv = .int .i64 s2 ∧ jv = .int .i64 j ∧ j ≤ L.length ∧ Hid (s2 + z7q (L.drop j) + z0n (N.drop (k + 1)) = z0n N) ∧ Hid (Fr (fun _ => False) W1 wr)) (fun _ jv _ => L.length - (Go.RowKit.intOf jv).toNat)
      case atStart => exact ⟨0, s1, rfl, rfl, Nat.zero_le _, HST, hide (Fr.refl _ _)⟩
      case round =>
       obtain ⟨j, s2, rfl, rfl, hj, hs2, hfr2⟩ := hrel
       have y1 := HXB.out wr hfr2.out
       have hll := HLL.out
       by_cases hjl : j < L.length
       · have hjm : (j : Int) < xm := by omega
         have hj40 : (j : Int) < 40 := by omega
         have nj0 : j < xm := by omega
         have nj40 : j < 40 := by omega
         have hjx : j < xs.length := by rw [HLX.out]; omega
         obtain ⟨ga, offa, ca, hva, -, -, hga, hca⟩ := (HOX.out.fr hfr2.out (fun k hk => ⟨HSS.out k hk, fun h => h⟩)).at_ hjx
         simp only [Value.slice.injEq] at hva
         obtain ⟨rfl, -, rfl⟩ := hva
         have a0 := hca 0 (by decide)
         have a1 := hca 1 (by decide)
         have hLj : L[j] = xs[j] := by
          have := HTK.out
          subst this
          rw [List.getElem_take]
         have hst := hs2.out
         rw [zjk hjl, hLj] at hst
         generalize xs[j] = av at *
         obtain ⟨an, av⟩ := av
         simp only [pairC, Nat.add_zero, List.getElem?_cons_zero, List.getElem?_cons_succ, ← Nat.add_assoc] at a0 a1 hst
         have hbd := HB.out
         have w1 : an.size ≤ 4611686018427387904 := by omega
         have w2 : av.size ≤ 4611686018427387904 := by omega
         have w3 : s2 ≤ 4611686018427387904 := by omega
         have w4 : s2 + an.size + av.size ≤ 4611686018427387904 := by omega
         have HST2 := hide (show s2 + an.size + av.size + z7q (L.drop (j + 1)) + z0n (N.drop (k + 1)) = z0n N from by omega)
         clear hca hga hjx hLj hst hbd hs2
         go_wp2_with fail
         go_quiet (fail)
         go_wp2_with fail
         have e1 : (s2 : Int) + an.size + av.size = ((s2 + an.size + av.size : Nat) : Int) := by omega
         first
          | exact ⟨⟨j + 1, s2 + an.size + av.size, by go_num, by go_num, by omega, HST2, hide (Fr.drewN hfr2.out _)⟩, by simp [Go.RowKit.intOf]; omega⟩
          | (go_roundw
             case rel => exact ⟨j + 1, s2 + an.size + av.size, by go_num, by go_num, by omega, HST2, hide (Fr.drewN hfr2.out _)⟩
             case measure => simp [Go.RowKit.intOf]; omega)
       · have hje : j = L.length := by omega
         have hs3 : s2 + z0n (N.drop (k + 1)) = z0n N := by
          have := hs2.out
          rw [hje, List.drop_of_length_le (Nat.le_refl _)] at this
          exact this
         have HS3 := hide hs3
         by_cases hjm : j < xm
         · have hjm1 : (j : Int) < xm := by omega
           have hj40 : ¬ (j : Int) < 40 := by omega
           have nj40 : ¬ j < 40 := by omega
           clear hs3 hs2 hje
           go_wp2_with fail
           first
            | exact ⟨⟨k + 1, s2, by go_num, by go_num, by omega, HS3, hide (HF.out.trans hfr2.out)⟩, by simp [Go.RowKit.intOf]; omega⟩
            | (go_roundw
               case rel => exact ⟨k + 1, s2, by go_num, by go_num, by omega, HS3, hide (HF.out.trans hfr2.out)⟩
               case measure => simp [Go.RowKit.intOf]; omega)
         · have hjm1 : ¬ (j : Int) < xm := by omega
           clear hs3 hs2 hje
           go_wp2_with fail
           first
            | exact ⟨⟨k + 1, s2, by go_num, by go_num, by omega, HS3, hide (HF.out.trans hfr2.out)⟩, by simp [Go.RowKit.intOf]; omega⟩
            | (go_roundw
               case rel => exact ⟨k + 1, s2, by go_num, by go_num, by omega, HS3, hide (HF.out.trans hfr2.out)⟩
               case measure => simp [Go.RowKit.intOf]; omega)
    · have hki : ¬ (k : Int) < n := by omega
      have hfin : s = z0n N := by
       rw [← hs.out, List.drop_of_length_le (by rw [HN.out]; omega)]
       rfl
      have hres : decide (z0n N ≤ 4000) = decide ((s : Int) ≤ 4000) := by rw [← hfin]; exact decide_eq_decide.2 (by omega)
      have HRES := hide hres
      clear hs hfin hres
      go_wp2_with fail
      go_returns
      exact ⟨by rw [HRES.out] <;> first | done | rfl | simp, FA.out.trans hfr.out⟩
 · have h61 : (60 : Int) < n := by omega
   have h62 : 60 < n := by omega
   rw [decide_eq_false h60, Bool.false_and]
   clear hfw hrd hS hlen hX hXn fa hb0
   go_enter Tryz.func45, Tryz.ntmps45
   go_wp2_with fail
   go_returns
   exact ⟨rfl, FA.out⟩
end Go.Proofs.YtncecbgpkoihpaaGreatDoor
namespace Go.Proofs.YtncecbgpkoihpaaGreatDoor
open Go.RowKit Go.Lib
attribute [local go_sem ↓] Go.wp_at_zero Go.wp_at_succ
attribute [local go_sem ↓] z47
theorem zpx : El Tryz.prog 156 171 2 32 := El.mk (.agg #[.string ⟨#[]⟩, .string ⟨#[]⟩]) Tryz.underlying156 (by kernel_rfl) rfl
theorem zpy : El Tryz.prog 66 170 7 88 := El.mk (.agg #[.string ⟨#[]⟩, .slice none 0 0, .string ⟨#[]⟩, .int .i64 0, .int .i64 0, .int .i64 0, .int .i64 0]) Tryz.underlying66 (by kernel_rfl) rfl
theorem zi7 {α : Type} (C : Cod α) (x : α) {W : World} {b : Nat} {E : TypeId} (h : W.heap[b]? = some (.cells (C.cells x).toArray E (0, 0))) : Rd C W (fun k => k = b) (.slice (some ⟨b, 0, none⟩) 1 1) [x] := by
 refine ⟨_, 1, rfl, Nat.le_refl _, by simp [maxLen], fun h => (by cases h), fun _ => ⟨b, 0, rfl, rfl, fun j u hu => ?_⟩⟩
 rw [cell_of_row _ _ _ _ _ _ h]
 rw [Nat.zero_add]
 simpa [Cod.flat] using hu
structure RefJ (Wy wr : World) (qy : Nat) (x : NodeV) (B : Option Addr) (d : Nat) (o : Option Nat) (l : List z07) : Prop where
 yb : wr.heap[qy]? = some (.cells #[.string x.name, .slice B l.length d, .string x.text, .int .i64 x.parent, .int .i64 x.first, .int .i64 x.next, .int .i64 x.at_] 170 (0, 0))
 own : Own pairC wr 171 (.slice B l.length d) o l
 new : ∀ k, o = some k → Wy.heap.size ≤ k
 fr : Fr (fun k => k = qy) Wy wr
theorem RefJ.step {Wy wr : World} {qy : Nat} {x : NodeV} {B : Option Addr} {d : Nat} {o : Option Nat} {l : List z07} (h : RefJ Wy wr qy x B d o l) (hq : qy < Wy.heap.size) (a : z07) (hl : l.length ≤ 1000000000) :
 ∃ B' d' w6, (zeh #[156, 156] 156 #[.slice B l.length d, .slice (some ⟨wr.heap.size, 0, none⟩) 1 1]).run Tryz.prog ((wr.alloc (.cells #[.string a.1, .string a.2] 171)).drew) = .ok (.slice B' (l.length + 1) d') w6 ∧
   w6.cell? ⟨qy, 1, none⟩ = some (.slice B l.length d) ∧ w6.frozen? ⟨qy, 1, none⟩ = false ∧ Hid (∃ o', RefJ Wy (w6.setCell ⟨qy, 1, none⟩ (.slice B' (l.length + 1) d')) qy x B' d' o' (l ++ [a])) := by
 have f1 : Fr (fun _ => False) wr (wr.alloc (.cells #[.string a.1, .string a.2] 171)).drew := (Fr.alloc (Fr.refl _ _) _).drew
 have hb := heap_alloc_new wr (.cells #[.string a.1, .string a.2] 171)
 obtain ⟨v, w6, o6, hr, h1, h2, h3⟩ := z0h (P := Tryz.prog) (C := pairC) (ty := 156) zpx ((wr.alloc (.cells #[.string a.1, .string a.2] 171)).drew) (h.own.fr f1 (fun _ _ h => h)) (zi7 pairC a (E := 171) (show ((wr.alloc (.cells #[.string a.1, .string a.2] 171)).drew).heap[wr.heap.size]? = _ from hb)) (by simp; omega)
 obtain ⟨B', d', hv, -, -⟩ := h1.form
 rw [List.length_append] at hv
 subst hv
 have hqw : qy < wr.heap.size := Nat.lt_of_lt_of_le hq h.fr.size
 have hoq : ¬ o = some qy := fun e => by have := h.new qy e; omega
 have hy6 : w6.heap[qy]? = some (.cells #[.string x.name, .slice B l.length d, .string x.text, .int .i64 x.parent, .int .i64 x.first, .int .i64 x.next, .int .i64 x.at_] 170 (0, 0)) := by
  rw [h2.block qy (Nat.lt_of_lt_of_le hqw f1.size) (fun e => hoq e), f1.block qy hqw (fun h => h)]
  exact h.yb
 have c1 := cell_of_row w6 qy 1 _ _ _ hy6
 refine ⟨B', d', w6, hr, by rw [c1]; rfl, frozen_of_row w6 qy 1 _ _ hy6, hide ⟨o6, ?_, ?_, ?_, ?_⟩⟩
 · have := heap_setCell_same w6 qy 1 _ _ (.slice B' (l.length + 1) d') hy6
   rw [List.length_append]
   exact this
 · have hn : ¬ o6 = some qy := fun e => by
    rcases h3 qy e with g | g
    · exact hoq g
    · have := f1.size; omega
   have := h1.fr (Fr.set_b w6 qy 1 (.slice B' (l.length + 1) d')) (fun k hk e => hn (by rw [hk, e]))
   rw [List.length_append]
   exact this
 · intro k hk
   rcases h3 k hk with g | g
   · exact h.new k g
   · have := f1.size
     have := h.fr.size
     omega
 · exact ((h.fr.trans (f1.mono (fun _ h => h.elim))).then_ h2 (fun k h4 h5 => by have := h.new k h5; omega)).trans (Fr.set_b w6 qy 1 _)
def TrN (b : Nat) (N : List NodeM) (W : World) (A : Option Addr) (n c : Nat) : Prop := ∃ X S, NodesRd W S (.slice A n c) X ∧ (∀ k, S k → b ≤ k ∧ k < W.heap.size) ∧ X.map (·.model) = N
structure RefO (W0 wr : World) (qo : Nat) (B : Option Addr) (d : Nat) (o : Option Nat) (Y : List NodeX) : Prop where
 ob : wr.heap[qo]? = some (.cells #[.slice B Y.length d] 68 (0, 0))
 own : Own nodeC wr 170 (.slice B Y.length d) o (Y.map (·.v))
 ok : ∀ y ∈ Y, y.v.m = y.ats.length ∧ Own pairC wr 171 (.slice y.v.A y.v.m y.v.c) y.oa y.ats
 new : ∀ k, o = some k → W0.heap.size ≤ k
 newa : ∀ y ∈ Y, ∀ k, y.oa = some k → W0.heap.size ≤ k ∧ o ≠ some k
 fr : Fr (fun k => k = qo) W0 wr
theorem RefO.push {W0 w wr2 w3 : World} {qo : Nat} {B B' : Option Addr} {d d' : Nat} {o o' : Option Nat} {Y : List NodeX} (h : RefO W0 w qo B d o Y) (hq : qo < W0.heap.size) (F2 : Fr (fun k => w.heap.size ≤ k) w wr2) {ob : Obj} {y : NodeX}
 (hy : y.v.m = y.ats.length ∧ Own pairC wr2 171 (.slice y.v.A y.v.m y.v.c) y.oa y.ats) (hyn : ∀ k, y.oa = some k → w.heap.size ≤ k)
 (m3 : Own nodeC w3 170 (.slice B' (Y.length + 1) d') o' (Y.map (·.v) ++ [y.v])) (g3 : Fr (fun k => o = some k) (wr2.alloc ob) w3) (n3 : ∀ k, o' = some k → o = some k ∨ ((wr2.alloc ob).heap.size ≤ k ∧ k < w3.heap.size)) :
 w3.cell? ⟨qo, 0, none⟩ = some (.slice B Y.length d) ∧ w3.frozen? ⟨qo, 0, none⟩ = false ∧ RefO W0 (w3.setCell ⟨qo, 0, none⟩ (.slice B' (Y.length + 1) d')) qo B' d' o' (Y ++ [y]) := by
 have s0 := h.fr.size
 have s2 := F2.size
 have s3 : (wr2.alloc ob).heap.size = wr2.heap.size + 1 := by simp
 have s4 := g3.size
 have fa : Fr (fun _ => False) wr2 (wr2.alloc ob) := Fr.alloc (Fr.refl _ _) _
 have hoq : ¬ o = some qo := fun e => by have := h.new qo e; omega
 have hoq' : ¬ o' = some qo := fun e => by
  rcases n3 qo e with g | g
  · exact hoq g
  · omega
 have hb3 : w3.heap[qo]? = some (.cells #[.slice B Y.length d] 68 (0, 0)) := by
  rw [g3.block qo (by omega) hoq, fa.block qo (by omega) (fun h => h), F2.block qo (by omega) (by omega)]
  exact h.ob
 have c0 := cell_of_row w3 qo 0 _ _ _ hb3
 have fs := Fr.set_b w3 qo 0 (.slice B' (Y.length + 1) d')
 have hlt : ∀ k, o = some k → k < w.heap.size := fun k hk => h.own.lt k hk
 refine ⟨by rw [c0]; rfl, frozen_of_row w3 qo 0 _ _ hb3, ?_, ?_, ?_, ?_, ?_, ?_⟩
 · have := heap_setCell_same w3 qo 0 _ _ (.slice B' (Y.length + 1) d') hb3
   rw [List.length_append]
   exact this
 · have := m3.fr fs (fun k hk e => hoq' (by rw [hk, e]))
   rw [List.length_append, List.map_append]
   exact this
 · intro z hz
   have key : z.v.m = z.ats.length ∧ Own pairC w3 171 (.slice z.v.A z.v.m z.v.c) z.oa z.ats ∧ ¬ z.oa = some qo := by
    rcases List.mem_append.1 hz with hz | hz
    · obtain ⟨a1, a2⟩ := h.ok z hz
      exact ⟨a1, ((a2.fr F2 (fun k hk e => by have := a2.lt k hk; omega)).fr fa (fun _ _ h => h)).fr g3 (fun k hk e => (h.newa z hz k hk).2 e), fun e => by have := (h.newa z hz qo e).1; omega⟩
    · rw [List.mem_singleton] at hz
      subst hz
      exact ⟨hy.1, (hy.2.fr fa (fun _ _ h => h)).fr g3 (fun k hk e => by have := hyn k hk; have := hlt k e; omega), fun e => by have := hyn qo e; omega⟩
   exact ⟨key.1, key.2.1.fr fs (fun k hk e => key.2.2 (by rw [hk, e]))⟩
 · intro k hk
   rcases n3 k hk with g | g
   · exact h.new k g
   · omega
 · intro z hz k hk
   rcases List.mem_append.1 hz with hz | hz
   · obtain ⟨a1, a2⟩ := h.newa z hz k hk
     refine ⟨a1, fun e => ?_⟩
     rcases n3 k e with g | g
     · exact a2 g
     · have := (h.ok z hz).2.lt k hk; omega
   · rw [List.mem_singleton] at hz
     subst hz
     refine ⟨by have := hyn k hk; omega, fun e => ?_⟩
     rcases n3 k e with g | g
     · have := hyn k hk; have := hlt k g; omega
     · have := hy.2.lt k hk; omega
 · exact (((h.fr.then_ F2 (fun k h1 h2 => by omega)).trans (fa.mono (fun _ h => h.elim))).then_ g3 (fun k h1 h2 => by have := h.new k h2; omega)).trans fs
set_option maxRecDepth 100000 in
set_option maxHeartbeats 8000000 in
theorem zsa {N : List NodeM} {A : Option Addr} {n c : Nat} (w : World) (h : Tr N w A n c) (hn : n ≤ 1000000) (hat : ∀ x ∈ N, x.attrs.length ≤ 1000000000) :
 Calls Tryz.prog 43 #[.agg #[.slice A n c]] w fun e w' => ∃ B d, e = .returned (.agg #[.slice B n d]) ∧ Hid (TrN w.heap.size N w' B n d) ∧ Fr (fun _ => False) w w' := by
 have hlen := h.len
 obtain ⟨X, S, hrd, hS, hX⟩ := h
 have hXn : X.length = n := by rw [← hlen, ← hX, List.length_map]
 have fa : Fr (fun _ => False) w (w.alloc (.cells #[.slice A n c] 75)) := Fr.alloc (Fr.refl _ _) _
 have hb0 := heap_alloc_new w (.cells #[.slice A n c] 75)
 have HRD := hide (hrd)
 have HS := hide hS
 have HN := hide hlen
 have HX := hide hX
 have HXN := hide hXn
 have HAT := hide hat
 clear hrd hS hlen hX hXn hat fa hb0
 go_enter Tryz.func43, Tryz.ntmps43
 go_wp2_with fail
 have FW0 := hide (show Fr (fun _ => False) w (((w.alloc (.cells #[.slice A n c] 75)).alloc (.cells #[.slice none 0 0] 68)).alloc (.cells #[.slice none 0 0] 68)) from (((Fr.refl _ _).alloc _).alloc _).alloc _)
 have HBB := hide (show (((w.alloc (.cells #[.slice A n c] 75)).alloc (.cells #[.slice none 0 0] 68)).alloc (.cells #[.slice none 0 0] 68)).heap[w.heap.size]? = some (.cells #[.slice A n c] 75 (0, 0)) ∧ (((w.alloc (.cells #[.slice A n c] 75)).alloc (.cells #[.slice none 0 0] 68)).alloc (.cells #[.slice none 0 0] 68)).heap[w.heap.size + 1]? = some (.cells #[.slice none 0 0] 68 (0, 0)) ∧ (((w.alloc (.cells #[.slice A n c] 75)).alloc (.cells #[.slice none 0 0] 68)).alloc (.cells #[.slice none 0 0] 68)).heap[w.heap.size + 1 + 1]? = some (.cells #[.slice none 0 0] 68 (0, 0)) from by
  have h1 := heap_alloc_new w (.cells #[.slice A n c] 75)
  have h2 := heap_alloc_new (w.alloc (.cells #[.slice A n c] 75)) (.cells #[.slice none 0 0] 68)
  have h3 := heap_alloc_new ((w.alloc (.cells #[.slice A n c] 75)).alloc (.cells #[.slice none 0 0] 68)) (.cells #[.slice none 0 0] 68)
  simp only [World.size_alloc] at h2 h3
  refine ⟨?_, ?_, h3⟩
  · rw [Below.heap_alloc _ _ _ (by simp; omega), Below.heap_alloc _ _ _ (by simp)]
    exact h1
  · rw [Below.heap_alloc _ _ _ (by simp)]
    exact h2)
 have HSZ := hide (show (((w.alloc (.cells #[.slice A n c] 75)).alloc (.cells #[.slice none 0 0] 68)).alloc (.cells #[.slice none 0 0] 68)).heap.size = w.heap.size + 1 + 1 + 1 from by simp)
 generalize (((w.alloc (.cells #[.slice A n c] 75)).alloc (.cells #[.slice none 0 0] 68)).alloc (.cells #[.slice none 0 0] 68)) = W0 at *
 have HJ0 := hide (show RefO W0 W0 (w.heap.size + 1 + 1) none 0 none [] from ⟨HBB.out.2.2, Own.nil_ _ _ _ _, fun y hy => (by cases hy), fun k hk => (by cases hk), fun y hy => (by cases hy), Fr.refl _ _⟩)
 go_loopw [4] (fun iv wr => ∃ (k : Nat) (B : Option Addr) (d : Nat) (o : Option Nat) (Y : List NodeX), iv = .int .i64 k ∧ k ≤ n ∧ Hid (RefO W0 wr (w.heap.size + 1 + 1) B d o Y) ∧ Hid (Y.map (·.model) = N.take k)) (fun iv _ => n - (Go.RowKit.intOf iv).toNat)
 case atStart => exact ⟨0, none, 0, none, [], rfl, Nat.zero_le _, HJ0, hide (by rw [List.take_zero]; rfl)⟩
 case round =>
  obtain ⟨k, B, d, o, Y, rfl, hk, hJ, hY⟩ := hrel
  have hq0 := HSZ.out
  have hbx : wr.heap[w.heap.size]? = some (.cells #[.slice A n c] 75 (0, 0)) := by
   rw [hJ.out.fr.block w.heap.size (by omega) (by omega)]
   exact HBB.out.1
  have b1 : wr.cell? ⟨w.heap.size, 0, none⟩ = some (.slice A n c) := by rw [cell_of_row _ _ _ _ _ _ hbx]; rfl
  have HFW := hide (show Fr (fun _ => False) w wr from FW0.out.then_ hJ.out.fr (fun k h1 h2 => by omega))
  by_cases hlt : k < n
  · have hki : (k : Int) < n := by omega
    have hkX : k < X.length := by rw [HXN.out]; exact hlt
    have hkN : k < N.length := by rw [HN.out]; exact hlt
    have HAW := HRD.out.fr HFW.out (fun k hk => ⟨HS.out k hk, fun h => h⟩)
    obtain ⟨g, off, cp, hv, -, -, hg, hc⟩ := HAW.rd.at_ (i := k) (by simpa using hkX)
    simp only [Value.slice.injEq] at hv
    obtain ⟨rfl, -, rfl⟩ := hv
    have q0 := hc 0 (by decide)
    have q1 := hc 1 (by decide)
    have q2 := hc 2 (by decide)
    have q3 := hc 3 (by decide)
    have q4 := hc 4 (by decide)
    have q5 := hc 5 (by decide)
    have q6 := hc 6 (by decide)
    rw [List.getElem_map] at q0 q1 q2 q3 q4 q5 q6
    have hox := HAW.ok _ (List.getElem_mem hkX)
    have hnx : N[k] = X[k].model := by have := HX.out; subst this; rw [List.getElem_map]
    have hts : N.take (k + 1) = N.take k ++ [X[k].model] := by rw [← hnx, List.take_succ_eq_append_getElem hkN]
    have hatt : X[k].ats.length ≤ 1000000000 := by have := HAT.out _ (List.getElem_mem hkN); rw [hnx] at this; exact this
    have HCX := hide (zcr wr X[k].v)
    generalize X[k] = x at *
    obtain ⟨⟨xn, xA, xm, xc, xt, xp, xf, xe, xa⟩, xo, xs⟩ := x
    have hox : Rd pairC wr S (.slice xA xm xc) xs := hox
    have hatt : xs.length ≤ 1000000000 := hatt
    obtain ⟨hlx, hx63⟩ := hox.lenT
    simp only [nodeC, Nat.add_zero, List.getElem?_cons_zero, List.getElem?_cons_succ, ← Nat.add_assoc] at q0 q1 q2 q3 q4 q5 q6 HCX
    obtain ⟨x0, x1, x2, x3, x4, x5, x6⟩ := HCX.out _ (Fr.refl _ _)
    have HTS := hide hts
    have HLX := hide hlx
    have HOX := hide hox
    have HATT := hide hatt
    clear hc hg hkX hkN hnx hts hox hlx hatt HAW
    go_wp2_with fail
    have FY := hide (show Fr (fun _ => False) wr ((wr.alloc (.cells #[.string xn, .slice xA xm xc, .string xt, .int .i64 xp, .int .i64 xf, .int .i64 xe, .int .i64 xa] 81)).alloc (.cells #[.string xn, .slice none 0 0, .string xt, .int .i64 xp, .int .i64 xf, .int .i64 xe, .int .i64 xa] 170)) from ((Fr.refl _ _).alloc _).alloc _)
    have HYB := hide (show ((wr.alloc (.cells #[.string xn, .slice xA xm xc, .string xt, .int .i64 xp, .int .i64 xf, .int .i64 xe, .int .i64 xa] 81)).alloc (.cells #[.string xn, .slice none 0 0, .string xt, .int .i64 xp, .int .i64 xf, .int .i64 xe, .int .i64 xa] 170)).heap[wr.heap.size + 1]? = some (.cells #[.string xn, .slice none 0 0, .string xt, .int .i64 xp, .int .i64 xf, .int .i64 xe, .int .i64 xa] 170 (0, 0)) from by
     have := heap_alloc_new (wr.alloc (.cells #[.string xn, .slice xA xm xc, .string xt, .int .i64 xp, .int .i64 xf, .int .i64 xe, .int .i64 xa] 81)) (.cells #[.string xn, .slice none 0 0, .string xt, .int .i64 xp, .int .i64 xf, .int .i64 xe, .int .i64 xa] 170)
     simpa using this)
    have HXB := hide (show ((wr.alloc (.cells #[.string xn, .slice xA xm xc, .string xt, .int .i64 xp, .int .i64 xf, .int .i64 xe, .int .i64 xa] 81)).alloc (.cells #[.string xn, .slice none 0 0, .string xt, .int .i64 xp, .int .i64 xf, .int .i64 xe, .int .i64 xa] 170)).heap[wr.heap.size]? = some (.cells #[.string xn, .slice xA xm xc, .string xt, .int .i64 xp, .int .i64 xf, .int .i64 xe, .int .i64 xa] 81 (0, 0)) from by
     rw [Below.heap_alloc _ _ _ (by simp)]
     exact heap_alloc_new wr _)
    have HYS := hide (show ((wr.alloc (.cells #[.string xn, .slice xA xm xc, .string xt, .int .i64 xp, .int .i64 xf, .int .i64 xe, .int .i64 xa] 81)).alloc (.cells #[.string xn, .slice none 0 0, .string xt, .int .i64 xp, .int .i64 xf, .int .i64 xe, .int .i64 xa] 170)).heap.size = wr.heap.size + 1 + 1 from by simp)
    clear x0 x1 x2 x3 x4 x5 x6 HCX q0 q1 q2 q3 q4 q5 q6 b1 hbx
    generalize ((wr.alloc (.cells #[.string xn, .slice xA xm xc, .string xt, .int .i64 xp, .int .i64 xf, .int .i64 xe, .int .i64 xa] 81)).alloc (.cells #[.string xn, .slice none 0 0, .string xt, .int .i64 xp, .int .i64 xf, .int .i64 xe, .int .i64 xa] 170)) = Wy at *
    have HJ1 := hide (show RefJ Wy Wy (wr.heap.size + 1) ⟨xn, xA, xm, xc, xt, xp, xf, xe, xa⟩ none 0 none (xs.take 0) from ⟨HYB.out, Own.nil_ _ _ _ _, fun k hk => (by cases hk), Fr.refl _ _⟩)
    have HWS := hide (show ∀ k, S k → k < wr.heap.size from fun k hk => Nat.lt_of_lt_of_le (HS.out k hk) HFW.out.size)
    generalize hq : wr.heap.size = q at *
    generalize hWR : wr = WR at *
    have HQ := hide hq
    clear hq
    go_loopw [7] (fun jv wr => ∃ (j : Nat) (B : Option Addr) (d : Nat) (o : Option Nat), jv = .int .i64 j ∧ j ≤ xm ∧ Hid (RefJ Wy wr (q + 1) ⟨xn, xA, xm, xc, xt, xp, xf, xe, xa⟩ B d o (xs.take j))) (fun jv _ => xm - (Go.RowKit.intOf jv).toNat)
    case atStart => exact ⟨0, none, 0, none, rfl, Nat.zero_le _, HJ1⟩
    case round =>
     obtain ⟨j, B1, d1, o1, rfl, hj, hR⟩ := hrel
     clear HJ1
     have hys := HYS.out
     have hxb : wr.heap[q]? = some (.cells #[.string xn, .slice xA xm xc, .string xt, .int .i64 xp, .int .i64 xf, .int .i64 xe, .int .i64 xa] 81 (0, 0)) := by
      rw [hR.out.fr.block q (by omega) (by omega)]
      exact HXB.out
     have z1 : wr.cell? ⟨q, 1, none⟩ = some (.slice xA xm xc) := by rw [cell_of_row _ _ _ _ _ _ hxb]; rfl
     have hlj : (xs.take j).length = j := by rw [List.length_take, HLX.out]; omega
     have hqs : q < wr.heap.size := (Array.getElem?_eq_some_iff.1 hxb).1
     by_cases hjl : j < xm
     · have hji : (j : Int) < xm := by omega
       have hjx : j < xs.length := by rw [HLX.out]; exact hjl
       have hSW : ∀ k, S k → k < wr.heap.size := fun k hk => by have := HWS.out k hk; omega
       obtain ⟨ga, offa, ca, hva, -, -, hga, hca⟩ := ((HOX.out.fr FY.out (fun k hk => ⟨by have := HWS.out k hk; have := HQ.out; omega, fun h => h⟩)).fr hR.out.fr (fun k hk => ⟨by have := HWS.out k hk; omega, by have := HWS.out k hk; omega⟩)).at_ hjx
       simp only [Value.slice.injEq] at hva
       obtain ⟨rfl, -, rfl⟩ := hva
       have a0 := hca 0 (by decide)
       have a1 := hca 1 (by decide)
       have htk : xs.take (j + 1) = xs.take j ++ [xs[j]] := by rw [List.take_succ_eq_append_getElem hjx]
       obtain ⟨B2, d2, w6, hrun, c6, f6, hJ6⟩ := hR.out.step (by omega) xs[j] (by rw [hlj]; have := HATT.out; omega)
       rw [hlj, ← htk] at hJ6
       rw [hlj] at hrun c6
       generalize xs[j] = av at *
       obtain ⟨an, av⟩ := av
       simp only [pairC, Nat.add_zero, List.getElem?_cons_zero, List.getElem?_cons_succ, ← Nat.add_assoc] at a0 a1
       have hyb := hR.out.yb
       rw [hlj] at hyb
       have y1 : wr.cell? ⟨q + 1, 1, none⟩ = some (.slice B1 j d1) := by rw [cell_of_row _ _ _ _ _ _ hyb]; rfl
       have hqs1 : q + 1 < wr.heap.size := (Array.getElem?_eq_some_iff.1 hyb).1
       have fd : Fr (fun _ => False) wr ((wr.alloc (.cells #[.string an, .string av] 171)).drew) := (Fr.alloc (Fr.refl _ _) _).drew
       have y2 := (fd.cell (p := ⟨q + 1, 1, none⟩) hqs1 (fun h => h)).trans y1
       clear hca hga hjx htk hyb hSW hxb fd
       go_wp2_with fail
       go_region
       obtain ⟨o2, hJ7⟩ := hJ6.out
       go_wp2_with fail
       exact ⟨⟨j + 1, B2, d2, o2, by go_num, by omega, hide hJ7⟩, by simp [Go.RowKit.intOf]; omega⟩
     · have hjm : j = xm := by omega
       have hji : ¬ (j : Int) < xm := by omega
       have hjX : xs.take j = xs := List.take_of_length_le (by rw [HLX.out]; omega)
       have hyb := hR.out.yb
       rw [hlj, hjm] at hyb
       have hqs1 : q + 1 < wr.heap.size := (Array.getElem?_eq_some_iff.1 hyb).1
       have F2 := hide (show Fr (fun k => WR.heap.size ≤ k) WR wr from (FY.out.mono (fun _ h => h.elim)).trans (hR.out.fr.mono (fun k hk => by have := HQ.out; omega)))
       have hq0 := HSZ.out
       have hws := hJ.out.fr.size
       have hob : wr.heap[w.heap.size + 1 + 1]? = some (.cells #[.slice B Y.length d] 68 (0, 0)) := by
        rw [F2.out.block _ (by omega) (by omega)]
        exact hJ.out.ob
       have u0 : wr.cell? ⟨w.heap.size + 1 + 1, 0, none⟩ = some (.slice B Y.length d) := by rw [cell_of_row _ _ _ _ _ _ hob]; rfl
       have v0 : wr.cell? ⟨q + 1, 0, none⟩ = some (.string xn) := by rw [cell_of_row _ _ _ _ _ _ hyb]; rfl
       have v1 : wr.cell? ⟨q + 1, 1, none⟩ = some (.slice B1 xm d1) := by rw [cell_of_row _ _ _ _ _ _ hyb]; rfl
       have v2 : wr.cell? ⟨q + 1, 2, none⟩ = some (.string xt) := by rw [cell_of_row _ _ _ _ _ _ hyb]; rfl
       have v3 : wr.cell? ⟨q + 1, 3, none⟩ = some (.int .i64 xp) := by rw [cell_of_row _ _ _ _ _ _ hyb]; rfl
       have v4 : wr.cell? ⟨q + 1, 4, none⟩ = some (.int .i64 xf) := by rw [cell_of_row _ _ _ _ _ _ hyb]; rfl
       have v5 : wr.cell? ⟨q + 1, 5, none⟩ = some (.int .i64 xe) := by rw [cell_of_row _ _ _ _ _ _ hyb]; rfl
       have v6 : wr.cell? ⟨q + 1, 6, none⟩ = some (.int .i64 xa) := by rw [cell_of_row _ _ _ _ _ _ hyb]; rfl
       have HOW := hide (hJ.out.own.fr F2.out (fun k hk e => by have := hJ.out.own.lt k hk; omega))
       have hYl : Y.length = k := by have := congrArg List.length hY.out; rw [List.length_map, List.length_take, HN.out] at this; omega
       have HB1 := hide (show (Y.length + 1) * 88 ≤ 140737488355328 from by omega)
       have HOY := hide (show (⟨⟨xn, B1, xm, d1, xt, xp, xf, xe, xa⟩, o1, xs⟩ : NodeX).v.m = (⟨⟨xn, B1, xm, d1, xt, xp, xf, xe, xa⟩, o1, xs⟩ : NodeX).ats.length ∧ Own pairC wr 171 (.slice B1 xm d1) o1 xs from by
        refine ⟨HLX.out.symm, ?_⟩
        have := hR.out.own
        rw [hlj, hjX, hjm] at this
        exact this)
       have HOYN := hide (show ∀ k, o1 = some k → WR.heap.size ≤ k from fun k hk => by have := hR.out.new k hk; have := HQ.out; omega)
       have HYL := hide hYl
       clear hyb hob hjX hYl hxb hys hws
       go_wp2_with (at_builtin; refine z0e (news := [(⟨xn, B1, xm, d1, xt, xp, xf, xe, xa⟩ : NodeV)]) rfl rfl zpy (by rfl) (by rfl) (HOW.out.fr (Fr.alloc (Fr.refl (fun _ => False) _) _) (fun _ _ h => h)) (zi7 nodeC (⟨xn, B1, xm, d1, xt, xp, xf, xe, xa⟩ : NodeV) (E := 170) (heap_alloc_new wr _)) (by rw [List.length_map]; exact HB1.out) ?_; intro B3 d3 w3 o3 m3 g3 n3; rw [List.length_map] at m3 ⊢; obtain ⟨p0, p1, PJ⟩ := hJ.out.push (y := ⟨⟨xn, B1, xm, d1, xt, xp, xf, xe, xa⟩, o1, xs⟩) (by omega) F2.out HOY.out HOYN.out m3 g3 n3; have PJ := hide PJ; clear m3 g3 n3)
       exact ⟨⟨k + 1, B3, d3, o3, _, by go_num, by omega, PJ, hide (by rw [HTS.out, List.map_append, hY.out]; rfl)⟩, by simp [Go.RowKit.intOf]; omega⟩
  · have hkn : k = n := by omega
    have hki : ¬ (k : Int) < n := by omega
    have hob := hJ.out.ob
    have hYl : Y.length = n := by have := congrArg List.length hY.out; rw [List.length_map, List.length_take, HN.out] at this; omega
    rw [hYl] at hob
    have u0 : wr.cell? ⟨w.heap.size + 1 + 1, 0, none⟩ = some (.slice B n d) := by rw [cell_of_row _ _ _ _ _ _ hob]; rfl
    have hrb : wr.heap[w.heap.size + 1]? = some (.cells #[.slice none 0 0] 68 (0, 0)) := by
     rw [hJ.out.fr.block _ (by omega) (by omega)]
     exact HBB.out.2.1
    have r0 : wr.cell? ⟨w.heap.size + 1, 0, none⟩ = some (.slice none 0 0) := by rw [cell_of_row _ _ _ _ _ _ hrb]; rfl
    have rf := frozen_of_row wr (w.heap.size + 1) 0 _ _ hrb
    have hc2 := heap_setCell_same wr (w.heap.size + 1) 0 _ _ (.slice B n d) hrb
    have k2 := cell_of_row (wr.setCell ⟨w.heap.size + 1, 0, none⟩ (.slice B n d)) (w.heap.size + 1) 0 _ _ _ hc2
    simp at k2
    have HK2 := hide k2
    have fset := Fr.set_b wr (w.heap.size + 1) 0 (.slice B n d)
    have HFE := hide (show Fr (fun _ => False) w (wr.setCell ⟨w.heap.size + 1, 0, none⟩ (.slice B n d)) from HFW.out.then_ fset (fun k h1 h2 => by omega))
    have HTR := hide (show TrN w.heap.size N (wr.setCell ⟨w.heap.size + 1, 0, none⟩ (.slice B n d)) B n d from by
     have hown := hJ.out.own
     rw [hYl] at hown
     have hq1 := HSZ.out
     refine ⟨Y, fun k => w.heap.size ≤ k ∧ k < wr.heap.size, ⟨?_, fun y hy => ?_⟩, fun k hk => ⟨hk.1, Nat.lt_of_lt_of_le hk.2 fset.size⟩, ?_⟩
     · exact ((hown.fr fset (fun k hk e => by have := hJ.out.new k hk; omega)).rd).mono (fun k hk => ⟨by have := hJ.out.new k hk; omega, hown.lt k hk⟩)
     · obtain ⟨a1, a2⟩ := hJ.out.ok y hy
       exact ((a2.fr fset (fun k hk e => by have := (hJ.out.newa y hy k hk).1; omega)).rd).mono (fun k hk => ⟨by have := (hJ.out.newa y hy k hk).1; omega, a2.lt k hk⟩)
     · rw [hY.out, hkn]
       exact List.take_of_length_le (by rw [HN.out]; exact Nat.le_refl _))
    clear hob hrb hc2 k2 fset hbx
    go_wp2_with fail
    refine bodyPost_ret (v := .agg #[.slice B n d]) (by simp [results, Tryz.results43, go_sem, HK2.out]) rfl ?_
    exact ⟨B, d, rfl, HTR, HFE.out⟩
end Go.Proofs.YtncecbgpkoihpaaGreatDoor
