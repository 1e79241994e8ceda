/- tree: are two trees the same? -/
import Derived.Test.YtncecbgpkoihpaaGreatDoorTreCd
import Derived.Laws.StructEq
import Derived.Shelf.SlicesE.Kit
import Derived.Deep.DeepFit
import Derived.Test.YtncecbgpkoihpaaGreatDoorNamAb
import Derived.Deep.RegionHeldLaw
namespace Go.Proofs.YtncecbgpkoihpaaGreatDoor
open Go.RowKit Go.Lib
attribute [local go_sem ↓] Go.wp_at_zero Go.wp_at_succ
def eqL (a b : List z07) : Bool := decide (a = b)
def eqA (a b : z07) : Bool := a.1.toList == b.1.toList && a.2.toList == b.2.toList
theorem zm7 (a b : z07) : eqA a b = true ↔ a = b := by
 unfold eqA
 rw [Bool.and_eq_true, beq_iff_eq, beq_iff_eq, Lib.toList_data, Lib.toList_data, Lib.toList_data, Lib.toList_data]
 obtain ⟨a1, a2⟩ := a
 obtain ⟨b1, b2⟩ := b
 constructor
 · rintro ⟨h1, h2⟩
   rw [Prod.mk.injEq]
   exact ⟨ByteArray.ext (Array.toList_inj.1 h1), ByteArray.ext (Array.toList_inj.1 h2)⟩
 · intro h
   cases h
   exact ⟨rfl, rfl⟩
theorem zpf (a b : z07) (w : World) : (binOp .neq 83 (.agg #[.string a.1, .string a.2]) (.agg #[.string b.1, .string b.2])).run Tryz.prog w = .ok (.bool (!eqA a b)) w := by
 have u3 := Tryz.underlying9
 have a3 := Tryz.isAgg9
 have z3 := Tryz.sizeOf9
 have hS : Tryz.prog.underlying 83 = some (.struct (Tryz.prog.fieldsOf 83)) := by kernel_rfl
 have hp : Tryz.prog.stoodInHeld 83 = false := by kernel_rfl
 rw [run_neq_struct, show (10000 : Nat) = 9999 + 1 from rfl, run_equalIn_agg w 9999 83 _ _ hS hp]
 simp only [Program.fieldsOf, Tryz.underlying83]
 unfold eqA
 go_simp
 by_cases h1 : a.1.toList = b.1.toList <;> by_cases h2 : a.2.toList = b.2.toList <;> simp [h1, h2]
set_option maxRecDepth 100000 in
set_option maxHeartbeats 4000000 in
theorem zja (w : World) (A B : Option Addr) (m n c d : Nat) (La Lb : List z07) (S S' : Nat → Prop) (ha : Rd pairC w S (.slice A m c) La) (hb : Rd pairC w S' (.slice B n d) Lb) (hS : ∀ k, S k → k < w.heap.size) (hS' : ∀ k, S' k → k < w.heap.size) :
 Calls Tryz.prog 107 #[.slice A m c, .slice B n d] w fun e w' => e = .returned (.bool (eqL La Lb)) ∧ Fr (fun _ => False) w w' := by
 obtain ⟨hla, hm63⟩ := ha.lenT
 obtain ⟨hlb, hn63⟩ := hb.lenT
 have hgd := GuardAt.agg (P := Tryz.prog) (T := 83) (fun x : z07 => #[.string x.1, .string x.2]) (by kernel_rfl)
 obtain ⟨r, hr⟩ : ∃ r, eqL La Lb = r := ⟨_, rfl⟩
 rw [hr]
 have HRES := hide hr
 have HA := hide ha
 have HB := hide hb
 have HS := hide hS
 have HS' := hide hS'
 clear ha hb hS hS' hr
 by_cases hmn : m = n
 · subst hmn
   have HLA := hide hla
   have HLB := hide hlb
   clear hla hlb
   go_enter Tryz.func107, Tryz.ntmps107
   go_wp2_with fail
   go_loopw [13] (fun i wr => ∃ k : Nat, i = .int .i64 k ∧ k ≤ m ∧ Hid (Fr (fun _ => False) w wr) ∧ Hid (La.take k = Lb.take k)) (fun i _ => m - (Go.RowKit.intOf i).toNat)
   case atStart => exact ⟨0, rfl, Nat.zero_le _, hide (Fr.refl _ _), hide (by simp)⟩
   case round =>
    obtain ⟨k, rfl, hk, hfr, htk⟩ := hrel
    by_cases hlt : k < m
    · have hki : (k : Int) < m := by omega
      have hka : k < La.length := by rw [HLA.out]; exact hlt
      have hkb : k < Lb.length := by rw [HLB.out]; exact hlt
      obtain ⟨g, off, cp, hv, -, -, hg, hc⟩ := (HA.out.fr hfr.out (fun k hk => ⟨HS.out k hk, fun h => h⟩)).at_ hka
      obtain ⟨g', off', cp', hv', -, -, hg', hc'⟩ := (HB.out.fr hfr.out (fun k hk => ⟨HS'.out k hk, fun h => h⟩)).at_ hkb
      simp only [Value.slice.injEq] at hv hv'
      obtain ⟨rfl, -, rfl⟩ := hv
      obtain ⟨rfl, -, rfl⟩ := hv'
      have q0 := hc 0 (by decide)
      have q1 := hc 1 (by decide)
      have p0 := hc' 0 (by decide)
      have p1 := hc' 1 (by decide)
      have hnext : Hid (La[k] = Lb[k] → La.take (k + 1) = Lb.take (k + 1)) := hide (fun e => by rw [List.take_succ_eq_append_getElem hka, List.take_succ_eq_append_getElem hkb, htk.out, e])
      have hno : Hid (La[k] ≠ Lb[k] → La ≠ Lb) := hide (fun e h => e (by subst h; rfl))
      generalize La[k] = x at *
      generalize Lb[k] = y at *
      have hnq := fun W => zpf x y W
      obtain ⟨x1, x2⟩ := x
      obtain ⟨y1, y2⟩ := y
      simp only [pairC, Nat.add_zero, List.getElem?_cons_zero, List.getElem?_cons_succ, ← Nat.add_assoc] at q0 q1 p0 p1
      have hgx := fun op a b W => hgd op a b (x1, x2) (y1, y2) W
      clear hc hc' hg hg' hka hkb hgd
      cases he : eqA (x1, x2) (y1, y2) with
      | true =>
        rw [he] at hnq
        have hee := (zm7 _ _).1 he
        have hn2 := hide (hnext.out hee)
        clear hnext hno hee he
        go_wp2_with fail
        go_quiet (fail)
        go_wp2_with fail
        go_roundw
        case rel => exact ⟨k + 1, by go_num, by omega, hide (hfr.out.drewN _), hn2⟩
        case measure => simp [Go.RowKit.intOf]; omega
      | false =>
        rw [he] at hnq
        obtain rfl : r = false := by
         rw [← HRES.out]
         exact decide_eq_false (hno.out (fun e => by rw [(zm7 _ _).2 e] at he; cases he))
        clear hnext hno he
        go_wp2_with fail
        go_quiet (fail)
        go_wp2_with fail
        go_ret
        exact ⟨rfl, hfr.out.drewN _⟩
    · have hki : ¬ (k : Int) < m := by omega
      obtain rfl : r = true := by
       rw [← HRES.out]
       refine decide_eq_true ?_
       have h1 := htk.out
       rw [List.take_of_length_le (by rw [HLA.out]; omega), List.take_of_length_le (by rw [HLB.out]; omega)] at h1
       exact h1
      go_wp2_with fail
      go_ret
      exact ⟨rfl, hfr.out⟩
 · obtain rfl : r = false := by
    rw [← HRES.out]
    exact decide_eq_false (fun e => hmn (by rw [← hla, ← hlb, e]))
   have hni : ((m : Int) == (n : Int)) = false := by rw [beq_eq_false_iff_ne]; omega
   clear hla hlb
   go_enter Tryz.func107, Tryz.ntmps107
   go_wp2_with fail
   go_ret
   exact ⟨rfl, Fr.refl _ _⟩
def zge (v : NodeV) : Value := .agg #[.string v.name, .slice v.A v.m v.c, .string v.text, .int .i64 v.parent, .int .i64 v.first, .int .i64 v.next, .int .i64 v.at_]
def zbe (w : World) (S : Nat → Prop) (x : NodeX) : Prop := Rd pairC w S (.slice x.v.A x.v.m x.v.c) x.ats
def eqN (x y : NodeM) : Bool := (x.name.toList == y.name.toList) && (eqL x.attrs y.attrs && ((x.text.toList == y.text.toList) && (x.parent == y.parent && (x.first == y.first && x.next == y.next))))
set_option maxRecDepth 100000 in
set_option maxHeartbeats 4000000 in
theorem zm8 (w : World) (x y : NodeX) (S S' : Nat → Prop) (hx : zbe w S x) (hy : zbe w S' y) (hS : ∀ k, S k → k < w.heap.size) (hS' : ∀ k, S' k → k < w.heap.size) :
 Calls Tryz.prog 106 #[zge x.v, zge y.v] w fun e w' => e = .returned (.bool (eqN x.model y.model)) ∧ Fr (fun _ => False) w w' := by
 unfold zge
 have fa : Fr (fun _ => False) w ((w.alloc (.cells #[.string x.v.name, .slice x.v.A x.v.m x.v.c, .string x.v.text, .int .i64 x.v.parent, .int .i64 x.v.first, .int .i64 x.v.next, .int .i64 x.v.at_] 81)).alloc (.cells #[.string y.v.name, .slice y.v.A y.v.m y.v.c, .string y.v.text, .int .i64 y.v.parent, .int .i64 y.v.first, .int .i64 y.v.next, .int .i64 y.v.at_] 81)) := Fr.alloc (Fr.alloc (Fr.refl _ _) _) _
 have HE := hide (zja _ _ _ _ _ _ _ _ _ _ _ (hx.fr fa (fun k hk => ⟨hS k hk, fun h => h⟩)) (hy.fr fa (fun k hk => ⟨hS' k hk, fun h => h⟩)) (fun k hk => Nat.lt_of_lt_of_le (hS k hk) fa.size) (fun k hk => Nat.lt_of_lt_of_le (hS' k hk) fa.size))
 have FA := hide fa
 obtain ⟨⟨xn, xA, xm, xc, xt, xp, xf, xe, xa⟩, xo, xs⟩ := x
 obtain ⟨⟨yn, yA, ym, yc, yt, yp, yf, ye, ya⟩, yo, ys⟩ := y
 simp only [NodeX.model, eqN] at *
 have hb1 := heap_alloc_new (w.alloc (.cells #[.string xn, .slice xA xm xc, .string xt, .int .i64 xp, .int .i64 xf, .int .i64 xe, .int .i64 xa] 81)) (.cells #[.string yn, .slice yA ym yc, .string yt, .int .i64 yp, .int .i64 yf, .int .i64 ye, .int .i64 ya] 81)
 have hb0 : ((w.alloc (.cells #[.string xn, .slice xA xm xc, .string xt, .int .i64 xp, .int .i64 xf, .int .i64 xe, .int .i64 xa] 81)).alloc (.cells #[.string yn, .slice yA ym yc, .string yt, .int .i64 yp, .int .i64 yf, .int .i64 ye, .int .i64 ya] 81)).heap[w.heap.size]? = some (.cells #[.string xn, .slice xA xm xc, .string xt, .int .i64 xp, .int .i64 xf, .int .i64 xe, .int .i64 xa] 81 (0, 0)) := by
  rw [Below.heap_alloc _ _ _ (by simp)]; exact heap_alloc_new w _
 simp only [World.size_alloc] at hb1
 have HB := hide (fun (W : World) (f : Fr (fun _ => False) ((w.alloc (.cells #[.string xn, .slice xA xm xc, .string xt, .int .i64 xp, .int .i64 xf, .int .i64 xe, .int .i64 xa] 81)).alloc (.cells #[.string yn, .slice yA ym yc, .string yt, .int .i64 yp, .int .i64 yf, .int .i64 ye, .int .i64 ya] 81)) W) =>
  show (W.cell? ⟨w.heap.size, 2, none⟩ = some (.string xt) ∧ W.cell? ⟨w.heap.size, 3, none⟩ = some (.int .i64 xp) ∧ W.cell? ⟨w.heap.size, 4, none⟩ = some (.int .i64 xf) ∧ W.cell? ⟨w.heap.size, 5, none⟩ = some (.int .i64 xe)) ∧
   (W.cell? ⟨w.heap.size + 1, 2, none⟩ = some (.string yt) ∧ W.cell? ⟨w.heap.size + 1, 3, none⟩ = some (.int .i64 yp) ∧ W.cell? ⟨w.heap.size + 1, 4, none⟩ = some (.int .i64 yf) ∧ W.cell? ⟨w.heap.size + 1, 5, none⟩ = some (.int .i64 ye)) from by
  have g0 := (f.block _ (Array.getElem?_eq_some_iff.1 hb0).1 (fun h => h)).trans hb0
  have g1 := (f.block _ (Array.getElem?_eq_some_iff.1 hb1).1 (fun h => h)).trans hb1
  refine ⟨⟨?_, ?_, ?_, ?_⟩, ?_, ?_, ?_, ?_⟩
  · rw [cell_of_row _ _ _ _ _ _ g0]; rfl
  · rw [cell_of_row _ _ _ _ _ _ g0]; rfl
  · rw [cell_of_row _ _ _ _ _ _ g0]; rfl
  · rw [cell_of_row _ _ _ _ _ _ g0]; rfl
  · rw [cell_of_row _ _ _ _ _ _ g1]; rfl
  · rw [cell_of_row _ _ _ _ _ _ g1]; rfl
  · rw [cell_of_row _ _ _ _ _ _ g1]; rfl
  · rw [cell_of_row _ _ _ _ _ _ g1]; rfl)
 generalize eqL xs ys = r at *
 clear hb0 hb1 hx hy hS hS' fa
 cases h1 : (xn.toList == yn.toList) with
 | false =>
   simp only [Bool.false_and]
   go_enter Tryz.func106, Tryz.ntmps106
   go_wp2_with fail
   go_ret
   exact ⟨rfl, FA.out⟩
 | true =>
   cases r with
   | false =>
     simp only [Bool.true_and, Bool.false_and]
     go_enter Tryz.func106, Tryz.ntmps106
     go_wp2_with (go_at_call 107; refine HE.out.mono ?_; rintro e w2 ⟨rfl, f2⟩)
     go_ret
     exact ⟨rfl, FA.out.trans f2⟩
   | true =>
     simp only [Bool.true_and]
     cases h3 : (xt.toList == yt.toList) <;> cases h4 : (xp == yp) <;> cases h5 : (xf == yf) <;> cases h6 : (xe == ye)
     all_goals
      simp only [Bool.true_and, Bool.false_and, Bool.and_false, Bool.and_true]
      go_enter Tryz.func106, Tryz.ntmps106
      go_wp2_with (go_at_call 107; refine HE.out.mono ?_; rintro e w2 ⟨rfl, f2⟩; obtain ⟨⟨z2, z3, z4, z5⟩, y2, y3, y4, y5⟩ := HB.out w2 f2)
      go_ret
      exact ⟨rfl, FA.out.trans f2⟩
end Go.Proofs.YtncecbgpkoihpaaGreatDoor
namespace Go.Proofs.YtncecbgpkoihpaaGreatDoor
open Go.RowKit Go.Lib
attribute [local go_sem ↓] Go.wp_at_zero Go.wp_at_succ
structure NodesRd (w : World) (S : Nat → Prop) (v : Value) (X : List NodeX) : Prop where
 rd : Rd nodeC w S v (X.map (·.v))
 ok : ∀ x ∈ X, zbe w S x
theorem NodesRd.fr {w w' : World} {S : Nat → Prop} {v : Value} {X : List NodeX} {fp : Nat → Prop} (h : NodesRd w S v X) (f : Fr fp w w') (hs : ∀ k, S k → k < w.heap.size ∧ ¬ fp k) : NodesRd w' S v X :=
 ⟨h.rd.fr f hs, fun x hx => (h.ok x hx).fr f hs⟩
def eqNs : List NodeM → List NodeM → Bool
 | [], [] => true
 | x :: a, y :: b => eqN x y && eqNs a b
 | _, _ => false
theorem zhm : ∀ {a b : List NodeM}, eqNs a b = true → a.length = b.length
 | [], [], _ => rfl
 | [], _ :: _, h => by cases h
 | _ :: _, [], h => by cases h
 | x :: a, y :: b, h => by
   rw [eqNs, Bool.and_eq_true] at h
   simp only [List.length_cons, zhm h.2]
theorem zm9 {a b : List NodeM} {k : Nat} (ha : k < a.length) (hb : k < b.length) : eqNs (a.drop k) (b.drop k) = (eqN a[k] b[k] && eqNs (a.drop (k + 1)) (b.drop (k + 1))) := by
 rw [List.drop_eq_getElem_cons ha, List.drop_eq_getElem_cons hb, eqNs]
set_option maxRecDepth 100000 in
set_option maxHeartbeats 4000000 in
theorem zch (w : World) (A B : Option Addr) (m n c d : Nat) (X Y : List NodeX) (S S' : Nat → Prop) (ha : NodesRd w S (.slice A m c) X) (hb : NodesRd w S' (.slice B n d) Y) (hS : ∀ k, S k → k < w.heap.size) (hS' : ∀ k, S' k → k < w.heap.size) :
 Calls Tryz.prog 105 #[.slice A m c, .slice B n d, .func (.func 106) #[] #[]] w fun e w' => e = .returned (.bool (eqNs (X.map (·.model)) (Y.map (·.model)))) ∧ Fr (fun _ => False) w w' := by
 obtain ⟨hla, hm63⟩ := ha.rd.lenT
 obtain ⟨hlb, hn63⟩ := hb.rd.lenT
 rw [List.length_map] at hla hlb
 obtain ⟨r, hr⟩ : ∃ r, eqNs (X.map (·.model)) (Y.map (·.model)) = r := ⟨_, rfl⟩
 rw [hr]
 have HRES := hide hr
 have HA := hide ha
 have HB := hide hb
 have HS := hide hS
 have HS' := hide hS'
 clear ha hb hS hS' hr
 by_cases hmn : m = n
 · subst hmn
   have HLA := hide hla
   have HLB := hide hlb
   clear hla hlb
   go_enter Tryz.func105, Tryz.ntmps105
   go_wp2_with fail
   go_loopw [17] (fun i wr => ∃ k : Nat, i = .int .i64 k ∧ k ≤ m ∧ Hid (Fr (fun _ => False) w wr) ∧ Hid (eqNs ((X.map (·.model)).drop k) ((Y.map (·.model)).drop k) = r)) (fun i _ => m - (Go.RowKit.intOf i).toNat)
   case atStart => exact ⟨0, rfl, Nat.zero_le _, hide (Fr.refl _ _), hide (by rw [List.drop_zero, List.drop_zero]; exact HRES.out)⟩
   case round =>
    obtain ⟨k, rfl, hk, hfr, htk⟩ := hrel
    by_cases hlt : k < m
    · have hki : (k : Int) < m := by omega
      have hka : k < X.length := by rw [HLA.out]; exact hlt
      have hkb : k < Y.length := by rw [HLB.out]; exact hlt
      have HAW := HA.out.fr hfr.out (fun k hk => ⟨HS.out k hk, fun h => h⟩)
      have HBW := HB.out.fr hfr.out (fun k hk => ⟨HS'.out k hk, fun h => h⟩)
      obtain ⟨g, off, cp, hv, -, -, hg, hc⟩ := HAW.rd.at_ (i := k) (by simpa using hka)
      obtain ⟨g', off', cp', hv', -, -, hg', hc'⟩ := HBW.rd.at_ (i := k) (by simpa using hkb)
      simp only [Value.slice.injEq] at hv hv'
      obtain ⟨rfl, -, rfl⟩ := hv
      obtain ⟨rfl, -, rfl⟩ := hv'
      have hgl : g' < wr.heap.size := Nat.lt_of_lt_of_le (HS'.out g' hg') hfr.out.size
      have q0 := hc 0 (by decide)
      have q1 := hc 1 (by decide)
      have q2 := hc 2 (by decide)
      have q3 := hc 3 (by decide)
      have q4 := hc 4 (by decide)
      have q5 := hc 5 (by decide)
      have q6 := hc 6 (by decide)
      have p0 := hc' 0 (by decide)
      have p1 := hc' 1 (by decide)
      have p2 := hc' 2 (by decide)
      have p3 := hc' 3 (by decide)
      have p4 := hc' 4 (by decide)
      have p5 := hc' 5 (by decide)
      have p6 := hc' 6 (by decide)
      rw [List.getElem_map] at q0 q1 q2 q3 q4 q5 q6 p0 p1 p2 p3 p4 p5 p6
      have hox := HAW.ok _ (List.getElem_mem hka)
      have hoy := HBW.ok _ (List.getElem_mem hkb)
      have hstep := htk.out
      rw [zm9 (by simpa using hka) (by simpa using hkb), List.getElem_map, List.getElem_map] at hstep
      generalize X[k] = x at *
      generalize Y[k] = y at *
      have HSM := hide (fun (W : World) (f : Fr (fun _ => False) wr W) => zm8 W x y S S' (hox.fr f (fun k hk => ⟨Nat.lt_of_lt_of_le (HS.out k hk) hfr.out.size, fun h => h⟩)) (hoy.fr f (fun k hk => ⟨Nat.lt_of_lt_of_le (HS'.out k hk) hfr.out.size, fun h => h⟩)) (fun k hk => Nat.lt_of_lt_of_le (HS.out k hk) (Nat.le_trans hfr.out.size f.size)) (fun k hk => Nat.lt_of_lt_of_le (HS'.out k hk) (Nat.le_trans hfr.out.size f.size)))
      unfold zge at HSM
      obtain ⟨⟨xn, xA, xm, xc, xt, xp, xf, xe, xa⟩, xo, xs⟩ := x
      obtain ⟨⟨yn, yA, ym, yc, yt, yp, yf, ye, ya⟩, yo, ys⟩ := y
      simp only [nodeC, Nat.add_zero, List.getElem?_cons_zero, List.getElem?_cons_succ, ← Nat.add_assoc] at q0 q1 q2 q3 q4 q5 q6 p0 p1 p2 p3 p4 p5 p6
      have fal := Fr.alloc (Fr.refl (fun _ => False) wr) (.cells #[.string xn, .slice xA xm xc, .string xt, .int .i64 xp, .int .i64 xf, .int .i64 xe, .int .i64 xa] 81)
      have r0 := (fal.cell (p := ⟨g', off' + k * 7, none⟩) hgl (fun h => h)).trans p0
      have r1 := (fal.cell (p := ⟨g', off' + k * 7 + 1, none⟩) hgl (fun h => h)).trans p1
      have r2 := (fal.cell (p := ⟨g', off' + k * 7 + 2, none⟩) hgl (fun h => h)).trans p2
      have r3 := (fal.cell (p := ⟨g', off' + k * 7 + 3, none⟩) hgl (fun h => h)).trans p3
      have r4 := (fal.cell (p := ⟨g', off' + k * 7 + 4, none⟩) hgl (fun h => h)).trans p4
      have r5 := (fal.cell (p := ⟨g', off' + k * 7 + 5, none⟩) hgl (fun h => h)).trans p5
      have r6 := (fal.cell (p := ⟨g', off' + k * 7 + 6, none⟩) hgl (fun h => h)).trans p6
      generalize hee : eqN _ _ = e at hstep HSM
      clear hc hc' hg hg' hka hkb hox hoy HAW HBW fal hgl hee
      cases e with
      | true =>
        rw [Bool.true_and] at hstep
        have hn2 := hide hstep
        clear hstep
        go_wp2_with (go_at_call 106; refine (HSM.out _ (Fr.alloc (Fr.alloc (Fr.refl _ _) _) _)).mono ?_; rintro e w2 ⟨rfl, f2⟩)
        exact ⟨⟨k + 1, by go_num, by omega, hide (hfr.out.trans ((Fr.alloc (Fr.alloc (Fr.refl _ _) _) _).trans f2)), hn2⟩, by simp [Go.RowKit.intOf]; omega⟩
      | false =>
        rw [Bool.false_and] at hstep
        subst hstep
        go_wp2_with (go_at_call 106; refine (HSM.out _ (Fr.alloc (Fr.alloc (Fr.refl _ _) _) _)).mono ?_; rintro e w2 ⟨rfl, f2⟩)
        go_ret
        exact ⟨rfl, hfr.out.trans ((Fr.alloc (Fr.alloc (Fr.refl _ _) _) _).trans f2)⟩
    · have hki : ¬ (k : Int) < m := by omega
      obtain rfl : r = true := by
       rw [← htk.out, List.drop_of_length_le (by rw [List.length_map, HLA.out]; omega), List.drop_of_length_le (by rw [List.length_map, HLB.out]; omega)]
       rfl
      go_wp2_with fail
      go_ret
      exact ⟨rfl, hfr.out⟩
 · obtain rfl : r = false := by
    rw [← HRES.out]
    cases hq : eqNs (X.map (·.model)) (Y.map (·.model)) with
    | false => rfl
    | true =>
      have := zhm hq
      rw [List.length_map, List.length_map, hla, hlb] at this
      exact absurd this hmn
   have hni : ((m : Int) == (n : Int)) = false := by rw [beq_eq_false_iff_ne]; omega
   clear hla hlb
   go_enter Tryz.func105, Tryz.ntmps105
   go_wp2_with fail
   go_ret
   exact ⟨rfl, Fr.refl _ _⟩
set_option maxRecDepth 100000 in
set_option maxHeartbeats 2000000 in
theorem zpg (w : World) (A B : Option Addr) (m n c d : Nat) (X Y : List NodeX) (S S' : Nat → Prop) (ha : NodesRd w S (.slice A m c) X) (hb : NodesRd w S' (.slice B n d) Y) (hS : ∀ k, S k → k < w.heap.size) (hS' : ∀ k, S' k → k < w.heap.size) :
 Calls Tryz.prog 38 #[.agg #[.slice A m c], .agg #[.slice B n d]] w fun e w' => e = .returned (.bool (eqNs (X.map (·.model)) (Y.map (·.model)))) ∧ Fr (fun _ => False) w w' := by
 have fa : Fr (fun _ => False) w ((w.alloc (.cells #[.slice A m c] 75)).alloc (.cells #[.slice B n d] 75)) := Fr.alloc (Fr.alloc (Fr.refl _ _) _) _
 have HE := hide (zch _ A B m n c d X Y S S' (ha.fr fa (fun k hk => ⟨hS k hk, fun h => h⟩)) (hb.fr fa (fun k hk => ⟨hS' k hk, fun h => h⟩)) (fun k hk => Nat.lt_of_lt_of_le (hS k hk) fa.size) (fun k hk => Nat.lt_of_lt_of_le (hS' k hk) fa.size))
 have FA := hide fa
 generalize eqNs (X.map (·.model)) (Y.map (·.model)) = r at *
 clear ha hb hS hS' fa
 go_enter Tryz.func38, Tryz.ntmps38
 go_wp2_with (go_at_call 105; refine HE.out.mono ?_; rintro e w2 ⟨rfl, f2⟩)
 go_ret
 exact ⟨rfl, FA.out.trans f2⟩
end Go.Proofs.YtncecbgpkoihpaaGreatDoor
namespace Go.Proofs.YtncecbgpkoihpaaGreatDoor
open Go.RowKit Go.Lib
attribute [local go_sem ↓] Go.wp_at_zero Go.wp_at_succ
def zjb (nm : ByteArray) : List z07 → ByteArray × Bool
 | [] => (⟨#[]⟩, false)
 | a :: l => if (a.1.toList == nm.toList) = true then (a.2, true) else zjb nm l
def getM (N : List NodeM) (i : Int) (nm : ByteArray) : ByteArray × Bool :=
 if i < 0 ∨ (N.length : Int) ≤ i then (⟨#[]⟩, false) else zjb nm ((N[i.toNat]?.map (·.attrs)).getD [])
set_option maxRecDepth 100000 in
set_option maxHeartbeats 4000000 in
theorem zs5 (w : World) (A : Option Addr) (n c : Nat) (X : List NodeX) (S : Nat → Prop) (i : Int) (nm : ByteArray) (ha : NodesRd w S (.slice A n c) X) (hS : ∀ k, S k → k < w.heap.size) :
 Calls Tryz.prog 108 #[.agg #[.slice A n c], .int .i64 i, .string nm] w fun e w' => e = .returned (.tuple #[.string (getM (X.map (·.model)) i nm).1, .bool (getM (X.map (·.model)) i nm).2]) ∧ Fr (fun _ => False) w w' := by
 obtain ⟨hla, hm63⟩ := ha.rd.lenT
 rw [List.length_map] at hla
 have fa : Fr (fun _ => False) w (w.alloc (.cells #[.slice A n c] 75)) := Fr.alloc (Fr.refl _ _) _
 have FA := hide fa
 by_cases hbad : i < 0 ∨ (n : Int) ≤ i
 · have hres : getM (X.map (·.model)) i nm = (⟨#[]⟩, false) := by unfold getM; rw [List.length_map, hla, if_pos hbad]
   rw [hres]
   clear hres fa
   by_cases h0 : i < 0
   · clear hbad hla ha hS
     go_enter Tryz.func108, Tryz.ntmps108
     go_wp2_with fail
     go_returns
     exact ⟨rfl, FA.out⟩
   · have h1 : ¬ i < (n : Int) := by omega
     have h2 : (n : Int) ≤ i := by omega
     clear hbad hla ha hS
     go_enter Tryz.func108, Tryz.ntmps108
     go_wp2_with fail
     go_returns
     exact ⟨rfl, FA.out⟩
 · obtain ⟨p, rfl⟩ : ∃ p : Nat, i = (p : Int) := ⟨i.toNat, by omega⟩
   have hpn : p < n := by omega
   have hpX : p < X.length := by omega
   have hpi : (p : Int) < n := by omega
   have h0 : ¬ (p : Int) < 0 := by omega
   have h2 : ¬ (n : Int) ≤ (p : Int) := by omega
   have hp0 : (0 : Int) ≤ p := by omega
   have HAW := ha.fr fa (fun k hk => ⟨hS k hk, fun h => h⟩)
   obtain ⟨g, off, cp, hv, -, -, hg, hc⟩ := HAW.rd.at_ (i := p) (by simpa using hpX)
   simp only [Value.slice.injEq] at hv
   obtain ⟨rfl, -, rfl⟩ := hv
   have q1 := hc 1 (by decide)
   rw [List.getElem_map] at q1
   have hox := HAW.ok _ (List.getElem_mem hpX)
   have hres : getM (X.map (·.model)) (p : Int) nm = zjb nm X[p].ats := by
    unfold getM
    rw [List.length_map, hla, if_neg hbad, Int.toNat_natCast, List.getElem?_map, List.getElem?_eq_getElem hpX]
    rfl
   rw [hres]
   obtain ⟨r, hr⟩ : ∃ r, zjb nm X[p].ats = r := ⟨_, rfl⟩
   rw [hr]
   generalize X[p] = x at *
   obtain ⟨⟨xn, xA, xm, xc, xt, xp, xf, xe, xa⟩, xo, xs⟩ := x
   simp only [nodeC, List.getElem?_cons_zero, List.getElem?_cons_succ, ← Nat.add_assoc] at q1
   have hox : Rd pairC (w.alloc (.cells #[.slice (some ⟨g, off, none⟩) n c] 75)) S (.slice xA xm xc) xs := hox
   obtain ⟨hlx, hx63⟩ := hox.lenT
   have HOX := hide hox
   have HRR := hide hr
   have HLX := hide hlx
   have HS2 := hide (fun k hk => Nat.lt_of_lt_of_le (hS k hk) fa.size)
   clear hbad hres hr hc hg HAW hox hlx ha hS fa hla hpn hpX
   go_enter Tryz.func108, Tryz.ntmps108
   go_wp2_with fail
   go_loopw [26] (fun i wr => ∃ k : Nat, i = .int .i64 k ∧ k ≤ xm ∧ Hid (Fr (fun _ => False) (w.alloc (.cells #[.slice (some ⟨g, off, none⟩) n c] 75)) wr) ∧ Hid (zjb nm (xs.drop k) = r)) (fun i _ => xm - (Go.RowKit.intOf i).toNat)
   case atStart => exact ⟨0, rfl, Nat.zero_le _, hide (Fr.refl _ _), hide (by rw [List.drop_zero]; exact HRR.out)⟩
   case round =>
    obtain ⟨k, rfl, hk, hfr, hd⟩ := hrel
    by_cases hlt : k < xm
    · have hki : (k : Int) < xm := by omega
      have hka : k < xs.length := by rw [HLX.out]; exact hlt
      obtain ⟨g2, off2, cp2, hv2, -, -, hg2, hc2⟩ := (HOX.out.fr hfr.out (fun k hk => ⟨HS2.out k hk, fun h => h⟩)).at_ hka
      simp only [Value.slice.injEq] at hv2
      obtain ⟨rfl, -, rfl⟩ := hv2
      have p0 := hc2 0 (by decide)
      have p1 := hc2 1 (by decide)
      have hstep := hd.out
      rw [List.drop_eq_getElem_cons hka, zjb] at hstep
      generalize xs[k] = a at *
      obtain ⟨an, av⟩ := a
      simp only [pairC, Nat.add_zero, List.getElem?_cons_zero, List.getElem?_cons_succ, ← Nat.add_assoc] at p0 p1 hstep
      have HW := hide (hfr.out.alloc (.cells #[.string an, .string av] 83))
      clear hc2 hg2 hka hd
      cases he : (an.toList == nm.toList) with
      | true =>
        rw [he, if_pos rfl] at hstep
        subst hstep
        go_wp2_with fail
        go_returns
        exact ⟨rfl, FA.out.trans HW.out⟩
      | false =>
        rw [he, if_neg (by simp)] at hstep
        have hn2 := hide hstep
        clear hstep
        go_wp2_with fail
        first
         | exact ⟨⟨k + 1, by go_num, by omega, HW, hn2⟩, by simp [Go.RowKit.intOf]; omega⟩
         | (go_roundw
            case rel => exact ⟨k + 1, by go_num, by omega, HW, hn2⟩
            case measure => simp [Go.RowKit.intOf]; omega)
    · have hki : ¬ (k : Int) < xm := by omega
      obtain rfl : r = (⟨#[]⟩, false) := by
       rw [← hd.out, List.drop_of_length_le (by rw [HLX.out]; omega)]
       rfl
      go_wp2_with fail
      go_returns
      exact ⟨rfl, FA.out.trans hfr.out⟩
end Go.Proofs.YtncecbgpkoihpaaGreatDoor
namespace Go.Proofs.YtncecbgpkoihpaaGreatDoor
open Go.RowKit Go.Lib
attribute [local go_sem ↓] Go.wp_at_zero Go.wp_at_succ
theorem zph (l : List UInt8) : z0q l = !(decide (lenN l = 0) || decide (lenN l < l.length)) := by
 have h := z4r l
 unfold z0q
 by_cases h1 : lenN l = 0 <;> by_cases h2 : lenN l = l.length <;> simp [h1, h2] <;> omega
set_option maxRecDepth 100000 in
set_option maxHeartbeats 2000000 in
theorem zhn (A : Option Addr) (n c : Nat) (L : List ByteArray) (S : Nat → Prop) (w : World) (hr : Rd strT w S (.slice A n c) L) (hz : ∀ s ∈ L, s.size ≤ 1000000) :
 Calls Tryz.prog 347 #[.slice A n c] w fun e w' => e = .returned (.bool (L.all fun s => z0q s.data.toList)) ∧ w = w' := by
 obtain ⟨hL, h63⟩ := hr.lenT
 obtain ⟨r, hres⟩ : ∃ r, (L.all fun s => z0q s.data.toList) = r := ⟨_, rfl⟩
 rw [hres]
 have HR := hide hr
 have HL := hide hL
 have HZ := hide hz
 have HRES := hide hres
 clear hr hL hz hres
 go_enter Tryz.func347, Tryz.ntmps347
 go_wp2_with fail
 go_loopw [8] (fun i wr => ∃ k : Nat, k ≤ n ∧ i = .int .i64 k ∧ w = wr ∧ Hid (((L.drop k).all fun s => z0q s.data.toList) = r)) (fun i _ => n - (Go.RowKit.intOf i).toNat)
 case atStart => exact ⟨0, Nat.zero_le _, rfl, rfl, hide (by rw [List.drop_zero]; exact HRES.out)⟩
 case round =>
  obtain ⟨k, hk, rfl, rfl, hd⟩ := hrel
  by_cases hlt : k < n
  · have hki : (k : Int) < n := by omega
    have hka : k < L.length := by rw [HL.out]; exact hlt
    obtain ⟨g, off, cp, hv, -, -, hg, hc⟩ := HR.out.at_ hka
    simp only [Value.slice.injEq] at hv
    obtain ⟨rfl, -, rfl⟩ := hv
    have q0 := hc 0 (by decide)
    have hstep := hd.out
    rw [List.drop_eq_getElem_cons hka, List.all_cons, zph] at hstep
    have hsz := HZ.out _ (List.getElem_mem hka)
    generalize L[k] = s at *
    have hl : s.data.toList.length = s.size := rfl
    have HN := hide (fun W => z7w s W hsz)
    simp only [strT, Nat.add_zero, List.getElem?_cons_zero, Nat.mul_one] at q0
    rw [hl] at hstep
    generalize lenN s.data.toList = z at *
    clear hc hg hka hd
    by_cases hz0 : z = 0
    · subst hz0
      simp at hstep
      obtain rfl := hstep
      go_wp2_with (go_at_call 376; refine (HN.out _).mono ?_; rintro e w' ⟨rfl, rfl⟩)
      go_ret
      exact ⟨rfl, rfl⟩
    · have hz1 : ((z : Int) == 0) = false := by rw [beq_eq_false_iff_ne]; omega
      by_cases hzs : z < s.size
      · have hzi : (z : Int) < s.size := by omega
        simp [hz0, hzs] at hstep
        obtain rfl := hstep
        clear hz0 hzs
        go_wp2_with (go_at_call 376; refine (HN.out _).mono ?_; rintro e w' ⟨rfl, rfl⟩)
        go_ret
        exact ⟨rfl, rfl⟩
      · have hzi : ¬ (z : Int) < s.size := by omega
        simp [hz0, hzs] at hstep
        have hn2 := hide hstep
        clear hz0 hzs hstep
        go_wp2_with (go_at_call 376; refine (HN.out _).mono ?_; rintro e w' ⟨rfl, rfl⟩)
        go_roundw
        case rel => exact ⟨k + 1, by omega, by go_num, by trivial, hide (by have := hn2.out; first | exact this | simpa using this)⟩
        case measure => simp [Go.RowKit.intOf]; omega
  · have hki : ¬ (k : Int) < n := by omega
    obtain rfl : r = true := by
     rw [← hd.out, List.drop_of_length_le (by rw [HL.out]; omega)]
     rfl
    go_wp2_with fail
    go_ret
    exact ⟨rfl, rfl⟩
set_option maxHeartbeats 2000000 in
theorem zbf (s : ByteArray) (w : World) (hb : UB w) (hs : s.size ≤ 1000000) : Calls Tryz.prog 201 #[.string s] w fun e w' => e = .returned (.bool ((z0g s.data.toList).2 == 0)) ∧ Fr (fun _ => False) w w' := by
 have HV := hide (z9r s w hb hs)
 generalize (z0g s.data.toList).1 = a at *
 generalize (z0g s.data.toList).2 = c at *
 clear hb hs
 go_enter Tryz.func201, Tryz.ntmps201
 go_wp2_with (go_at_call 176; refine HV.out.mono ?_; rintro e w1 ⟨rfl, f1⟩)
 go_ret
 exact ⟨rfl, f1⟩
end Go.Proofs.YtncecbgpkoihpaaGreatDoor
namespace Go.Proofs.YtncecbgpkoihpaaGreatDoor
open Go.RowKit Go.Lib
attribute [local go_sem ↓] Go.wp_at_zero Go.wp_at_succ
theorem zma (w : World) (L : List ByteArray) (E : TypeId) (cs : Array Value) (hc : cs.toList = strT.flat L) (hl : L.length ≤ maxLen) : Rd strT (w.alloc (.cells cs E)) (fun k => k = w.heap.size) (.slice (some ⟨w.heap.size, 0, none⟩) L.length L.length) L := by
 refine ⟨_, L.length, rfl, Nat.le_refl _, hl, fun h => (by cases h), fun _ => ⟨w.heap.size, 0, rfl, rfl, fun j u hu => ?_⟩⟩
 rw [cell_of_row _ _ _ _ _ _ (heap_alloc_new w _), Nat.zero_add, ← Array.getElem?_toList, hc]
 exact hu
set_option maxRecDepth 100000 in
set_option maxHeartbeats 2000000 in
theorem zjc (s : ByteArray) (w : World) (hst : St w) (hs : s.size ≤ 1000000) : Calls Tryz.prog 274 #[.string s] w fun e w' =>
 (∃ p l, e = .returned (.tuple #[.string p, .string l, .bool (z0a s.data.toList).isSome])) ∧ Fr (fun _ => False) w w' := by
 have hl : s.data.toList.length = s.size := rfl
 obtain ⟨ml, hml⟩ := hst.ml
 obtain ⟨r, hr⟩ : ∃ r, (z0a s.data.toList).isSome = r := ⟨_, rfl⟩
 rw [hr]
 by_cases h64 : 64 < s.size
 · have hi : (64 : Int) < s.size := by omega
   obtain rfl : r = false := by rw [← hr]; unfold z0a; rw [if_pos (by omega)]; rfl
   clear h64 hr hst hml hl
   go_enter Tryz.func274, Tryz.ntmps274
   go_wp2_with fail
   go_returns
   exact ⟨⟨_, _, rfl⟩, Fr.refl _ _⟩
 · have hi : ¬ (64 : Int) < s.size := by omega
   have HC0 := Tryz.strings_Cut s ⟨#[58]⟩ ml w (by omega) hml
   rw [show (⟨#[58]⟩ : ByteArray).data.toList = [58] from rfl] at HC0
   unfold z0a at hr
   rw [if_neg (by omega)] at hr
   by_cases hm : (58 : UInt8) ∈ s.data.toList
   · rw [zl7 hm] at HC0
     rw [if_pos hm] at hr
     simp only at HC0
     obtain ⟨P, hP⟩ : ∃ P : ByteArray, (⟨(s.data.toList.takeWhile (· != 58)).toArray⟩ : ByteArray) = P := ⟨_, rfl⟩
     obtain ⟨Q, hQ⟩ : ∃ Q : ByteArray, (⟨(s.data.toList.drop ((s.data.toList.takeWhile (· != 58)).length + 1)).toArray⟩ : ByteArray) = Q := ⟨_, rfl⟩
     have hPl : P.data.toList = s.data.toList.takeWhile (· != 58) := by rw [← hP]
     have hQl : Q.data.toList = s.data.toList.drop ((s.data.toList.takeWhile (· != 58)).length + 1) := by rw [← hQ]
     have hPz : P.size ≤ 1000000 := by
      have h1 : P.data.toList.length = P.size := rfl
      rw [hPl] at h1
      have := z0v (· != (58 : UInt8)) s.data.toList
      omega
     have hQz : Q.size ≤ 1000000 := by
      have h1 : Q.data.toList.length = Q.size := rfl
      rw [hQl, List.length_drop] at h1
      omega
     rw [hP, hQ] at HC0
     rw [← hPl] at hr
     have hr2 : (([P, Q] : List ByteArray).all fun s => z0q s.data.toList) = r := by
      rw [← hr, List.all_cons, List.all_cons, List.all_nil, Bool.and_true, hQl, ← hPl]
      cases z0q P.data.toList <;> cases z0q (s.data.toList.drop (P.data.toList.length + 1)) <;> rfl
     have HA := hide (fun (W : World) => zhn (some ⟨W.heap.size, 0, none⟩) 2 2 [P, Q] _ (W.alloc (.cells #[.string P, .string Q] 9)) (zma W [P, Q] 9 #[.string P, .string Q] rfl (by simp [maxLen])) (fun s hs => by
      simp only [List.mem_cons, List.not_mem_nil, or_false] at hs
      rcases hs with rfl | rfl
      · exact hPz
      · exact hQz))
     rw [hr2] at HA
     have HC := hide HC0
     clear HC0 hr hr2 hP hQ hPl hQl hPz hQz hm hst hml hl h64
     cases r with
     | true =>
       go_enter Tryz.func274, Tryz.ntmps274
       go_wp2_with (first
        | (go_at_call 62; refine HC.out.mono ?_; rintro e w1 ⟨rfl, n1, rfl⟩)
        | (go_at_call 347; refine (HA.out _).mono ?_; rintro e w2 ⟨rfl, rfl⟩))
       go_returns
       exact ⟨⟨_, _, rfl⟩, ((Fr.refl _ _).drewN _).alloc _⟩
     | false =>
       go_enter Tryz.func274, Tryz.ntmps274
       go_wp2_with (first
        | (go_at_call 62; refine HC.out.mono ?_; rintro e w1 ⟨rfl, n1, rfl⟩)
        | (go_at_call 347; refine (HA.out _).mono ?_; rintro e w2 ⟨rfl, rfl⟩))
       go_returns
       exact ⟨⟨_, _, rfl⟩, ((Fr.refl _ _).drewN _).alloc _⟩
   · rw [zh4 hm] at HC0
     rw [if_neg hm] at hr
     simp only at HC0
     have hr2 : (([s] : List ByteArray).all fun s => z0q s.data.toList) = r := by
      rw [← hr, List.all_cons, List.all_nil, Bool.and_true]
      by_cases g1 : z0q s.data.toList = true <;> simp [g1]
     have HA := hide (fun (W : World) => zhn (some ⟨W.heap.size, 0, none⟩) 1 1 [s] _ (W.alloc (.cells #[.string s] 9)) (zma W [s] 9 #[.string s] rfl (by simp [maxLen])) (fun x hx => by
      simp only [List.mem_cons, List.not_mem_nil, or_false] at hx
      subst hx
      exact hs))
     rw [hr2] at HA
     have HC := hide HC0
     clear HC0 hr hr2 hm hst hml hl h64
     cases r with
     | true =>
       go_enter Tryz.func274, Tryz.ntmps274
       go_wp2_with (first
        | (go_at_call 62; refine HC.out.mono ?_; rintro e w1 ⟨rfl, n1, rfl⟩)
        | (go_at_call 347; refine (HA.out _).mono ?_; rintro e w2 ⟨rfl, rfl⟩))
       go_returns
       exact ⟨⟨_, _, rfl⟩, ((Fr.refl _ _).drewN _).alloc _⟩
     | false =>
       go_enter Tryz.func274, Tryz.ntmps274
       go_wp2_with (first
        | (go_at_call 62; refine HC.out.mono ?_; rintro e w1 ⟨rfl, n1, rfl⟩)
        | (go_at_call 347; refine (HA.out _).mono ?_; rintro e w2 ⟨rfl, rfl⟩))
       go_returns
       exact ⟨⟨_, _, rfl⟩, ((Fr.refl _ _).drewN _).alloc _⟩
set_option maxHeartbeats 2000000 in
theorem zmb (s : ByteArray) (w : World) (hst : St w) (hs : s.size ≤ 1000000) : Calls Tryz.prog 199 #[.string s] w fun e w' => e = .returned (.bool (z0a s.data.toList).isSome) ∧ Fr (fun _ => False) w w' := by
 have HV := hide (zjc s w hst hs)
 generalize (z0a s.data.toList).isSome = r at *
 clear hst hs
 go_enter Tryz.func199, Tryz.ntmps199
 go_wp2_with (go_at_call 274; refine HV.out.mono ?_; rintro e w1 ⟨⟨p, l, rfl⟩, f1⟩)
 go_ret
 exact ⟨rfl, f1⟩
end Go.Proofs.YtncecbgpkoihpaaGreatDoor
namespace Go.Proofs.YtncecbgpkoihpaaGreatDoor
open Go.RowKit Go.Lib
attribute [local go_sem ↓] Go.wp_at_zero Go.wp_at_succ
def badA (a : z07) : Bool := !(z0a a.1.data.toList).isSome || !((z0g a.2.data.toList).2 == 0)
set_option maxRecDepth 100000 in
set_option maxHeartbeats 2000000 in
theorem zjd (a : z07) (w : World) (hst : St w) (h1 : a.1.size ≤ 1000000) (h2 : a.2.size ≤ 1000000) : Calls Tryz.prog 277 #[.agg #[.string a.1, .string a.2]] w fun e w' => e = .returned (.bool (badA a)) ∧ Fr (fun _ => False) w w' := by
 have fa : Fr (fun _ => False) w (w.alloc (.cells #[.string a.1, .string a.2] 83)) := Fr.alloc (Fr.refl _ _) _
 have HN := hide (zmb a.1 _ (hst.same fa) h1)
 have HV := hide (fun (W : World) (f : Fr (fun _ => False) w W) => zbf a.2 W (hst.same f).ub h2)
 have hb := heap_alloc_new w (.cells #[.string a.1, .string a.2] 83)
 have HB := hide (fun (W : World) (f : Fr (fun _ => False) (w.alloc (.cells #[.string a.1, .string a.2] 83)) W) => show W.cell? ⟨w.heap.size, 1, none⟩ = some (.string a.2) from by
  rw [f.cell (by simp) (fun h => h), cell_of_row _ _ _ _ _ _ hb]; rfl)
 have FA := hide fa
 unfold badA
 generalize (z0a a.1.data.toList).isSome = r1 at *
 generalize ((z0g a.2.data.toList).2 == 0) = r2 at *
 obtain ⟨an, av⟩ := a
 simp only at *
 clear fa hb hst h1 h2
 cases r1 with
 | false =>
   simp only [Bool.not_false, Bool.true_or]
   go_enter Tryz.func277, Tryz.ntmps277
   go_wp2_with (go_at_call 199; refine HN.out.mono ?_; rintro e w1 ⟨rfl, f1⟩)
   go_ret
   exact ⟨rfl, FA.out.trans f1⟩
 | true =>
   cases r2
   all_goals
    simp only [Bool.not_true, Bool.false_or, Bool.not_false]
    go_enter Tryz.func277, Tryz.ntmps277
    go_wp2_with (first
     | (go_at_call 199; refine HN.out.mono ?_; rintro e w1 ⟨rfl, f1⟩; have z1 := HB.out w1 f1)
     | (go_at_call 201; refine (HV.out _ (FA.out.trans f1)).mono ?_; rintro e w2 ⟨rfl, f2⟩))
    go_ret
    exact ⟨rfl, (FA.out.trans f1).trans f2⟩
set_option maxRecDepth 100000 in
set_option maxHeartbeats 2000000 in
theorem zci (A : Option Addr) (n c : Nat) (L : List z07) (S : Nat → Prop) (w : World) (hst : St w) (hr : Rd pairC w S (.slice A n c) L) (hS : ∀ k, S k → k < w.heap.size) (hz : ∀ a ∈ L, a.1.size ≤ 1000000 ∧ a.2.size ≤ 1000000) :
 Calls Tryz.prog 276 #[.slice A n c, .func (.func 277) #[] #[]] w fun e w' => e = .returned (.bool (L.any badA)) ∧ Fr (fun _ => False) w w' := by
 have HIX : Calls Tryz.prog 254 #[.slice A n c, .func (.func 277) #[] #[]] w fun e w' => (∃ z : Int, e = .returned (.int .i64 z) ∧ (decide (0 ≤ z) = L.any badA)) ∧ Fr (fun _ => False) w w' := by
  obtain ⟨hL, h63⟩ := hr.lenT
  obtain ⟨r, hres⟩ : ∃ r, L.any badA = r := ⟨_, rfl⟩
  rw [hres]
  have HR := hide hr
  have HS := hide hS
  have HL := hide hL
  have HZ := hide hz
  have HRES := hide hres
  have HST := hide (fun (W : World) (f : Fr (fun _ => False) w W) => hst.same f)
  clear hr hS hL hz hres hst
  go_enter Tryz.func254, Tryz.ntmps254
  go_wp2_with fail
  go_loopw [8] (fun i wr => ∃ k : Nat, k ≤ n ∧ i = .int .i64 k ∧ Hid (Fr (fun _ => False) w wr) ∧ Hid ((L.drop k).any badA = r)) (fun i _ => n - (Go.RowKit.intOf i).toNat)
  case atStart => exact ⟨0, Nat.zero_le _, rfl, hide (Fr.refl _ _), hide (by rw [List.drop_zero]; exact HRES.out)⟩
  case round =>
   obtain ⟨k, hk, rfl, hfr, hd⟩ := hrel
   by_cases hlt : k < n
   · have hki : (k : Int) < n := by omega
     have hka : k < L.length := by rw [HL.out]; exact hlt
     obtain ⟨g, off, cp, hv, -, -, hg, hc⟩ := (HR.out.fr hfr.out (fun k hk => ⟨HS.out k hk, fun h => h⟩)).at_ hka
     simp only [Value.slice.injEq] at hv
     obtain ⟨rfl, -, rfl⟩ := hv
     have q0 := hc 0 (by decide)
     have q1 := hc 1 (by decide)
     have hstep := hd.out
     rw [List.drop_eq_getElem_cons hka, List.any_cons] at hstep
     have hsz := HZ.out _ (List.getElem_mem hka)
     generalize L[k] = a at *
     have HP := hide (zjd a wr (HST.out wr hfr.out) hsz.1 hsz.2)
     obtain ⟨an, av⟩ := a
     simp only [pairC, Nat.add_zero, List.getElem?_cons_zero, List.getElem?_cons_succ, ← Nat.add_assoc] at q0 q1
     generalize badA (an, av) = bb at *
     clear hc hg hka hd hsz
     cases bb with
     | true =>
       rw [Bool.true_or] at hstep
       subst hstep
       go_wp2_with (go_at_call 277; refine HP.out.mono ?_; rintro e w' ⟨rfl, f1⟩)
       go_ret
       exact ⟨⟨_, rfl, by simp⟩, hfr.out.trans f1⟩
     | false =>
       rw [Bool.false_or] at hstep
       have hn2 := hide hstep
       clear hstep
       go_wp2_with (go_at_call 277; refine HP.out.mono ?_; rintro e w' ⟨rfl, f1⟩)
       exact ⟨⟨k + 1, by omega, by go_num, hide (hfr.out.trans f1), hn2⟩, by simp [Go.RowKit.intOf]; omega⟩
   · have hki : ¬ (k : Int) < n := by omega
     obtain rfl : r = false := by
      rw [← hd.out, List.drop_of_length_le (by rw [HL.out]; omega)]
      rfl
     go_wp2_with fail
     go_ret
     exact ⟨⟨_, rfl, by decide⟩, hfr.out⟩
 have HI := hide HIX
 generalize L.any badA = r at *
 clear HIX hr hS hz hst
 go_enter Tryz.func276, Tryz.ntmps276
 go_wp2_with (go_at_call 254; refine HI.out.mono ?_; rintro e w1 ⟨⟨z, rfl, hz⟩, f1⟩)
 go_ret
 exact ⟨by rw [← hz]; rfl, f1⟩
end Go.Proofs.YtncecbgpkoihpaaGreatDoor
namespace Go.Proofs.YtncecbgpkoihpaaGreatDoor
open Go.RowKit Go.Lib
attribute [local go_sem ↓] Go.wp_at_zero Go.wp_at_succ
open Go.Sort in
theorem zpi (x y : z07) (W : World) : Calls Tryz.prog 195 #[.agg #[.string x.1, .string x.2], .agg #[.string y.1, .string y.2]] W fun e w' => e = .returned (.int .i64 (cmpA x y)) ∧ Fr (fun _ => False) W w' :=
 (zed x y W).mono fun e w' ⟨he, q, os, hw⟩ => ⟨he, by
  subst hw
  refine ⟨rfl, rfl, rfl, ?_, fun k hk _ => ?_⟩
  · show W.heap.size ≤ (W.heap ++ os).size
    simp
  · show (W.heap ++ os)[k]? = W.heap[k]?
    rw [Array.getElem?_append_left hk]⟩
theorem zpj (x y : z07) : (cmpA x y < 0) ↔ nmA x < nmA y := by
 unfold cmpA cmpS nmA
 by_cases h1 : x.1.data.toList < y.1.data.toList
 · rw [if_pos h1]; simp [h1]
 · rw [if_neg h1]
   by_cases h2 : y.1.data.toList < x.1.data.toList
   · rw [if_pos h2]; simp [h1]
   · rw [if_neg h2]; simp [h1]
def z6p : List z07 → Bool
 | x :: y :: l => !decide (nmA y < nmA x) && z6p (y :: l)
 | _ => true
theorem za5 : ∀ (l : List z07), z6p l = true ↔ ∀ i, ∀ h : i + 1 < l.length, ¬ nmA l[i + 1] < nmA l[i]
 | [] => by simp [z6p]
 | [x] => by simp [z6p]
 | x :: y :: l => by
   rw [z6p, Bool.and_eq_true, Bool.not_eq_true', decide_eq_false_iff_not, za5 (y :: l)]
   constructor
   · rintro ⟨h1, h2⟩ i h
     cases i with
     | zero => exact h1
     | succ i => exact h2 i (by simp only [List.length_cons] at h ⊢; omega)
   · intro h
     exact ⟨h 0 (by simp), fun i hi => h (i + 1) (by simp only [List.length_cons] at hi ⊢; omega)⟩
set_option maxRecDepth 100000 in
set_option maxHeartbeats 4000000 in
theorem zej (A : Option Addr) (n c : Nat) (L : List z07) (S : Nat → Prop) (w : World) (hr : Rd pairC w S (.slice A n c) L) (hS : ∀ k, S k → k < w.heap.size) :
 Calls Tryz.prog 275 #[.slice A n c, .func (.func 195) #[] #[]] w fun e w' => e = .returned (.bool (z6p L)) ∧ Fr (fun _ => False) w w' := by
 obtain ⟨hL, h63⟩ := hr.lenT
 obtain ⟨r, hres⟩ : ∃ r, z6p L = r := ⟨_, rfl⟩
 rw [hres]
 have HR := hide hr
 have HS := hide hS
 have HL := hide hL
 have HRES := hide hres
 clear hr hS hL hres
 go_enter Tryz.func275, Tryz.ntmps275
 go_wp2_with fail
 go_loopw [5] (fun i wr => ∃ z : Int, i = .int .i64 z ∧ -1 ≤ z ∧ z < n ∧ Hid (Fr (fun _ => False) w wr) ∧ Hid (∀ i, ∀ h : i + 1 < L.length, z ≤ i → ¬ nmA L[i + 1] < nmA L[i])) (fun i _ => ((Go.RowKit.intOf i) + 1).toNat)
 case atStart => exact ⟨_, rfl, by omega, by omega, hide (Fr.refl _ _), hide (fun i h h1 => absurd h (by rw [HL.out]; omega))⟩
 case round =>
  obtain ⟨z, rfl, hz1, hzn, hfr, hno⟩ := hrel
  by_cases hp : 0 < z
  · obtain ⟨j, rfl⟩ : ∃ j : Nat, z = (j : Int) := ⟨z.toNat, by omega⟩
    have hka : j < L.length := by rw [HL.out]; omega
    have hkb : j - 1 < L.length := by omega
    have HRW := HR.out.fr hfr.out (fun k hk => ⟨HS.out k hk, fun h => h⟩)
    obtain ⟨g, off, cp, hv, -, -, hg, hc⟩ := HRW.at_ hka
    obtain ⟨g', off', cp', hv', -, -, hg', hc'⟩ := HRW.at_ hkb
    simp only [Value.slice.injEq] at hv hv'
    obtain ⟨rfl, -, rfl⟩ := hv
    simp only [Option.some.injEq, Addr.mk.injEq] at hv'
    obtain ⟨⟨rfl, rfl, -⟩, -, -⟩ := hv'
    have q0 := hc 0 (by decide)
    have q1 := hc 1 (by decide)
    have p0 := hc' 0 (by decide)
    have p1 := hc' 1 (by decide)
    have hsame : Hid (∀ i, ∀ h : i + 1 < L.length, i + 1 = j → (nmA L[i + 1] < nmA L[i] ↔ nmA (L[j]'hka) < nmA (L[j - 1]'hkb))) := hide (fun i h h1 => by subst h1; exact Iff.rfl)
    have hbad : Hid (nmA (L[j]'hka) < nmA (L[j - 1]'hkb) → z6p L = false) := hide (fun e => by
     cases hq : z6p L with
     | false => rfl
     | true => exact absurd ((hsame.out (j - 1) (by omega) (by omega)).2 e) ((za5 L).1 hq (j - 1) (by omega)))
    have hgood : Hid (¬ nmA (L[j]'hka) < nmA (L[j - 1]'hkb) → ∀ i, ∀ h : i + 1 < L.length, (j : Int) - 1 ≤ i → ¬ nmA L[i + 1] < nmA L[i]) := hide (fun e i h h1 => by
     by_cases h2 : i + 1 = j
     · exact fun g => e ((hsame.out i h h2).1 g)
     · exact hno.out i h (by omega))
    have hgw : g < wr.heap.size := Nat.lt_of_lt_of_le (HS.out g hg) hfr.out.size
    clear hsame
    generalize (L[j]'hka) = x at *
    generalize (L[j - 1]'hkb) = y at *
    have HO := hide (fun W => zpi x y W)
    have hneg := zpj x y
    obtain ⟨xn, xv⟩ := x
    obtain ⟨yn, yv⟩ := y
    simp only [pairC, Nat.add_zero, List.getElem?_cons_zero, List.getElem?_cons_succ, ← Nat.add_assoc] at q0 q1 p0 p1
    have e1 : IntKind.i64.wrap ((j : Int) - 1) = ((j - 1 : Nat) : Int) := by rw [IntWalk.i64_in _ (by omega)]; omega
    have b1 : (j : Int) < n := by omega
    have b2 : ((j - 1 : Nat) : Int) < n := by omega
    have b3 : (0 : Int) ≤ (j : Int) := by omega
    have b4 : (0 : Int) ≤ ((j - 1 : Nat) : Int) := by omega
    have b5 : (0 : Int) < (j : Int) := by omega
    generalize cmpA (xn, xv) (yn, yv) = zz at *
    clear hc hc' hg hg' HRW hka hkb hno
    by_cases hz : zz < 0
    · obtain rfl : r = false := by rw [← HRES.out]; exact hbad.out (hneg.1 hz)
      clear hbad hgood hneg
      go_wp2_with fail
      go_region_held_law (fun w' => w'.cell? ⟨g, off + j * 2, none⟩ = some (.string xn) ∧ w'.cell? ⟨g, off + j * 2 + 1, none⟩ = some (.string xv) ∧ w'.cell? ⟨g, off + (j - 1) * 2, none⟩ = some (.string yn) ∧ w'.cell? ⟨g, off + (j - 1) * 2 + 1, none⟩ = some (.string yv))
       (first | exact ⟨q0, q1, p0, p1⟩ | exact ⟨(f1.cell hgw (fun h => h)).trans q0, (f1.cell hgw (fun h => h)).trans q1, (f1.cell hgw (fun h => h)).trans p0, (f1.cell hgw (fun h => h)).trans p1⟩)
       ((go_at_call 195; refine (HO.out _).mono ?_; rintro e w1 ⟨rfl, hf1⟩; have f1 : Fr (fun _ => False) wr w1 := ⟨hf1.os, hf1.tape, hf1.output, hf1.size, hf1.block⟩))
      go_wp2_with fail
      go_ret
      exact ⟨rfl, hfr.out.trans f1⟩
    · have hn2 := hide (hgood.out (fun h => hz (hneg.2 h)))
      clear hbad hgood hneg
      go_wp2_with fail
      go_region_held_law (fun w' => w'.cell? ⟨g, off + j * 2, none⟩ = some (.string xn) ∧ w'.cell? ⟨g, off + j * 2 + 1, none⟩ = some (.string xv) ∧ w'.cell? ⟨g, off + (j - 1) * 2, none⟩ = some (.string yn) ∧ w'.cell? ⟨g, off + (j - 1) * 2 + 1, none⟩ = some (.string yv))
       (first | exact ⟨q0, q1, p0, p1⟩ | exact ⟨(f1.cell hgw (fun h => h)).trans q0, (f1.cell hgw (fun h => h)).trans q1, (f1.cell hgw (fun h => h)).trans p0, (f1.cell hgw (fun h => h)).trans p1⟩)
       ((go_at_call 195; refine (HO.out _).mono ?_; rintro e w1 ⟨rfl, hf1⟩; have f1 : Fr (fun _ => False) wr w1 := ⟨hf1.os, hf1.tape, hf1.output, hf1.size, hf1.block⟩))
      go_wp2_with fail
      go_roundw
      case rel => exact ⟨(j : Int) - 1, by (try go_num) <;> (first | rfl | (congr 1; omega)), by omega, by omega, hide (hfr.out.trans f1), hn2⟩
      case measure => simp [Go.RowKit.intOf]; omega
  · have hp2 : ¬ (0 : Int) < z := hp
    obtain rfl : r = true := by
     rw [← HRES.out]
     exact (za5 L).2 (fun i h => hno.out i h (by omega))
    go_wp2_with fail
    go_ret
    exact ⟨rfl, hfr.out⟩
def z60 (L : List z07) : Bool := decide (L.length ≤ 32) && (z6p L && (!adjA L && !L.any badA))
set_option maxRecDepth 100000 in
set_option maxHeartbeats 2000000 in
theorem zmc (A : Option Addr) (n c : Nat) (L : List z07) (S : Nat → Prop) (w : World) (hst : St w) (hr : Rd pairC w S (.slice A n c) L) (hS : ∀ k, S k → k < w.heap.size) (hz : n ≤ 32 → ∀ a ∈ L, a.1.size ≤ 1000000 ∧ a.2.size ≤ 1000000) :
 Calls Tryz.prog 200 #[.slice A n c] w fun e w' => e = .returned (.bool (z60 L)) ∧ Fr (fun _ => False) w w' := by
 obtain ⟨hL, h63⟩ := hr.lenT
 have HI := hide (zej A n c L S w hr hS)
 have HT := hide (fun (W : World) (f : Fr (fun _ => False) w W) => z2p S A n c L W (hr.fr f (fun k hk => ⟨hS k hk, fun h => h⟩)) (fun k hk => Nat.lt_of_lt_of_le (hS k hk) f.size))
 have HC := hide (fun (h32 : n ≤ 32) (W : World) (f : Fr (fun _ => False) w W) => zci A n c L S W (hst.same f) (hr.fr f (fun k hk => ⟨hS k hk, fun h => h⟩)) (fun k hk => Nat.lt_of_lt_of_le (hS k hk) f.size) (hz h32))
 unfold z60
 rw [hL]
 generalize z6p L = r1 at *
 generalize adjA L = r2 at *
 generalize L.any badA = r3 at *
 clear hL hr hS hz hst
 by_cases h32 : n ≤ 32
 · have hi : (n : Int) ≤ 32 := by omega
   rw [decide_eq_true h32, Bool.true_and]
   cases r1 with
   | false =>
     simp only [Bool.false_and]
     go_enter Tryz.func200, Tryz.ntmps200
     go_wp2_with (go_at_call 275; refine HI.out.mono ?_; rintro e w1 ⟨rfl, f1⟩)
     go_ret
     exact ⟨rfl, f1⟩
   | true =>
     cases r2 with
     | true =>
       simp only [Bool.true_and, Bool.not_true, Bool.false_and]
       go_enter Tryz.func200, Tryz.ntmps200
       go_wp2_with (first
        | (go_at_call 275; refine HI.out.mono ?_; rintro e w1 ⟨rfl, f1⟩)
        | (go_at_call 196; refine (HT.out _ f1).mono ?_; rintro e w2 ⟨rfl, f2⟩))
       go_ret
       exact ⟨rfl, f1.trans f2⟩
     | false =>
       cases r3
       all_goals
        simp only [Bool.true_and, Bool.not_false, Bool.not_true]
        go_enter Tryz.func200, Tryz.ntmps200
        go_wp2_with (first
         | (go_at_call 275; refine HI.out.mono ?_; rintro e w1 ⟨rfl, f1⟩)
         | (go_at_call 196; refine (HT.out _ f1).mono ?_; rintro e w2 ⟨rfl, f2⟩)
         | (go_at_call 276; refine (HC.out h32 _ (f1.trans f2)).mono ?_; rintro e w3 ⟨rfl, f3⟩))
        go_ret
        exact ⟨rfl, (f1.trans f2).trans f3⟩
 · have hi : ¬ (n : Int) ≤ 32 := by omega
   rw [decide_eq_false h32, Bool.false_and]
   go_enter Tryz.func200, Tryz.ntmps200
   go_wp2_with fail
   go_ret
   exact ⟨rfl, Fr.refl _ _⟩
end Go.Proofs.YtncecbgpkoihpaaGreatDoor
namespace Go.Proofs.YtncecbgpkoihpaaGreatDoor
open Go.RowKit Go.Lib
attribute [local go_sem ↓] Go.wp_at_zero Go.wp_at_succ
def zmd (s : ByteArray) : Bool := decide (s.size = 0)
def z54 (x : NodeM) : Bool := (z0a x.name.data.toList).isSome && (z60 x.attrs && (((z0g x.text.data.toList).2 == 0) && (zmd x.text || !z1d x.text.data.toList)))
def z56 (x : NodeM) : Prop := x.name.size ≤ 1000000 ∧ x.text.size ≤ 1000000 ∧ (x.attrs.length ≤ 32 → ∀ a ∈ x.attrs, a.1.size ≤ 1000000 ∧ a.2.size ≤ 1000000)
set_option maxRecDepth 100000 in
set_option maxHeartbeats 4000000 in
theorem zme (w : World) (x : NodeX) (S : Nat → Prop) (hst : St w) (hx : zbe w S x) (hS : ∀ k, S k → k < w.heap.size) (hz : z56 x.model) :
 Calls Tryz.prog 120 #[zge x.v] w fun e w' => e = .returned (.bool (z54 x.model)) ∧ Fr (fun _ => False) w w' := by
 unfold zge
 obtain ⟨⟨xn, xA, xm, xc, xt, xp, xf, xe, xa⟩, xo, xs⟩ := x
 have fa : Fr (fun _ => False) w (w.alloc (.cells #[.string xn, .slice xA xm xc, .string xt, .int .i64 xp, .int .i64 xf, .int .i64 xe, .int .i64 xa] 81)) := Fr.alloc (Fr.refl _ _) _
 obtain ⟨z1, z2, z3⟩ := hz
 have HN := hide (zmb xn _ (hst.same fa) z1)
 have HA := hide (fun (W : World) (f : Fr (fun _ => False) w W) => zmc xA xm xc xs S W (hst.same f) (hx.fr f (fun k hk => ⟨hS k hk, fun h => h⟩)) (fun k hk => Nat.lt_of_lt_of_le (hS k hk) f.size) (fun h => z3 (by show xs.length ≤ 32; have := (show Rd pairC w S (.slice xA xm xc) xs from hx).lenT; omega)))
 have HV := hide (fun (W : World) (f : Fr (fun _ => False) w W) => zbf xt W (hst.same f).ub z2)
 have z2' : xt.size ≤ 1000000 := z2
 have HBL := hide (fun W => z9x xt W (by omega))
 have hb := heap_alloc_new w (.cells #[.string xn, .slice xA xm xc, .string xt, .int .i64 xp, .int .i64 xf, .int .i64 xe, .int .i64 xa] 81)
 have HB := hide (fun (W : World) (f : Fr (fun _ => False) (w.alloc (.cells #[.string xn, .slice xA xm xc, .string xt, .int .i64 xp, .int .i64 xf, .int .i64 xe, .int .i64 xa] 81)) W) => show W.cell? ⟨w.heap.size, 1, none⟩ = some (.slice xA xm xc) ∧ W.cell? ⟨w.heap.size, 2, none⟩ = some (.string xt) from by
  have g0 := (f.block _ (Array.getElem?_eq_some_iff.1 hb).1 (fun h => h)).trans hb
  exact ⟨by rw [cell_of_row _ _ _ _ _ _ g0]; rfl, by rw [cell_of_row _ _ _ _ _ _ g0]; rfl⟩)
 have FA := hide fa
 unfold z54
 simp only [NodeX.model]
 generalize (z0a xn.data.toList).isSome = r1 at *
 generalize z60 xs = r2 at *
 generalize ((z0g xt.data.toList).2 == 0) = r3 at *
 generalize z1d xt.data.toList = r5 at *
 clear fa hb hst hx hS z1 z2 z3
 cases r1 with
 | false =>
   simp only [Bool.false_and]
   go_enter Tryz.func120, Tryz.ntmps120
   go_wp2_with (go_at_call 199; refine HN.out.mono ?_; rintro e w1 ⟨rfl, f1⟩; obtain ⟨y1, y2⟩ := HB.out w1 f1)
   go_ret
   exact ⟨rfl, FA.out.trans f1⟩
 | true =>
   cases r2 with
   | false =>
     simp only [Bool.true_and, Bool.false_and]
     go_enter Tryz.func120, Tryz.ntmps120
     go_wp2_with (first
      | (go_at_call 199; refine HN.out.mono ?_; rintro e w1 ⟨rfl, f1⟩; obtain ⟨y1, y2⟩ := HB.out w1 f1)
      | (go_at_call 200; refine (HA.out _ (FA.out.trans f1)).mono ?_; rintro e w2 ⟨rfl, f2⟩; obtain ⟨x1, x2⟩ := HB.out w2 (f1.trans f2)))
     go_ret
     exact ⟨rfl, (FA.out.trans f1).trans f2⟩
   | true =>
     cases r3 with
     | false =>
       simp only [Bool.true_and, Bool.false_and]
       go_enter Tryz.func120, Tryz.ntmps120
       go_wp2_with (first
        | (go_at_call 199; refine HN.out.mono ?_; rintro e w1 ⟨rfl, f1⟩; obtain ⟨y1, y2⟩ := HB.out w1 f1)
        | (go_at_call 200; refine (HA.out _ (FA.out.trans f1)).mono ?_; rintro e w2 ⟨rfl, f2⟩; obtain ⟨x1, x2⟩ := HB.out w2 (f1.trans f2))
        | (go_at_call 201; refine (HV.out _ ((FA.out.trans f1).trans f2)).mono ?_; rintro e w3 ⟨rfl, f3⟩; obtain ⟨v1, v2⟩ := HB.out w3 ((f1.trans f2).trans f3)))
       go_ret
       exact ⟨rfl, ((FA.out.trans f1).trans f2).trans f3⟩
     | true =>
       simp only [Bool.true_and]
       by_cases hsz : xt.size = 0
       · rw [show zmd xt = true from decide_eq_true hsz, Bool.true_or]
         have hxe : xt = ⟨#[]⟩ := ByteArray.ext (Array.size_eq_zero_iff.1 hsz)
         subst hxe
         go_enter Tryz.func120, Tryz.ntmps120
         go_wp2_with (first
          | (go_at_call 199; refine HN.out.mono ?_; rintro e w1 ⟨rfl, f1⟩; obtain ⟨y1, y2⟩ := HB.out w1 f1)
          | (go_at_call 200; refine (HA.out _ (FA.out.trans f1)).mono ?_; rintro e w2 ⟨rfl, f2⟩; obtain ⟨x1, x2⟩ := HB.out w2 (f1.trans f2))
          | (go_at_call 201; refine (HV.out _ ((FA.out.trans f1).trans f2)).mono ?_; rintro e w3 ⟨rfl, f3⟩; obtain ⟨v1, v2⟩ := HB.out w3 ((f1.trans f2).trans f3)))
         go_ret
         exact ⟨rfl, ((FA.out.trans f1).trans f2).trans f3⟩
       · rw [show zmd xt = false from decide_eq_false hsz, Bool.false_or]
         have hE := z1u (P := xt) (by omega)
         have hE2 := z63 (P := xt) (by omega)
         clear hsz
         cases r5
         all_goals
          go_enter Tryz.func120, Tryz.ntmps120
          go_wp2_with (first
           | (go_at_call 199; refine HN.out.mono ?_; rintro e w1 ⟨rfl, f1⟩; obtain ⟨y1, y2⟩ := HB.out w1 f1)
           | (go_at_call 200; refine (HA.out _ (FA.out.trans f1)).mono ?_; rintro e w2 ⟨rfl, f2⟩; obtain ⟨x1, x2⟩ := HB.out w2 (f1.trans f2))
           | (go_at_call 201; refine (HV.out _ ((FA.out.trans f1).trans f2)).mono ?_; rintro e w3 ⟨rfl, f3⟩; obtain ⟨v1, v2⟩ := HB.out w3 ((f1.trans f2).trans f3))
           | (go_at_call 198; refine (HBL.out _).mono ?_; rintro e w4 ⟨rfl, f4⟩))
          go_ret
          exact ⟨rfl, (((FA.out.trans f1).trans f2).trans f3).trans f4⟩
end Go.Proofs.YtncecbgpkoihpaaGreatDoor
