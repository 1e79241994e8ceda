/- the law's same: two rows of tokens that are the same, the second one shifted. -/
import Derived.Test.YtalbehjjgdedcaaGreatDoorLawC
namespace Go.Proofs.YtalbehjjgdedcaaGreatDoor
open Go.RowKit Go.Lib
attribute [local go_sem ↓] Go.wp_at_zero Go.wp_at_succ

/-- append, as one thing that a walk leaves alone -/
def appSem (ts : Array TypeId) (ty : TypeId) (vs : Array Value) : Sem Value := Builtin.append_ ts ty vs
theorem app_fold (ts : Array TypeId) (ty : TypeId) (vs : Array Value) : Builtin.append_ ts ty vs = appSem ts ty vs := rfl
attribute [local go_sem ↓] app_fold

/-- where same's copying stands: so many attributes are in the box -/
structure CopyJ (w3 : World) (tb : Nat) (kd : Int) (nm tx : ByteArray) (ta : Int) (ps : List (ByteArray × ByteArray)) (wr : World) (k : Nat) (A : Option Addr) (c : Nat) (o : Option Nat) (L : List RawV) : Prop where
  tok : RTokAt wr tb kd nm (.slice A k c) tx ta
  own : Own rawC wr 90 (.slice A k c) o L
  new : ∀ x, o = some x → w3.heap.size ≤ x ∧ x < wr.heap.size
  done : L.map nv = ps.take k
  fr : Fr (fun x => x = tb) w3 wr

set_option maxRecDepth 100000 in
set_option maxHeartbeats 8000000 in
theorem same_true (w : World) (Aa Ab : Option Addr) (n ca cb : Nat) (X Y : List TokX) (Sa Sb : Nat → Prop) (ha : Rd tokC w Sa (.slice Aa n ca) (X.map (·.t))) (hb : Rd tokC w Sb (.slice Ab n cb) (Y.map (·.t)))
    (hSa : ∀ k, Sa k → k < w.heap.size) (hSb : ∀ k, Sb k → k < w.heap.size) (hX : ∀ x ∈ X, TokOk w x) (hY : ∀ x ∈ Y, TokOk w x) (d : Nat) (h : X.map (·.m) = (Y.map (·.m)).map (shT d))
    (hbd : ∀ y ∈ Y, y.m.at_ + d ≤ 2000000 ∧ y.m.attrs.length ≤ 1000000) :
    Calls Tryz.prog 18 #[.slice Aa n ca, .slice Ab n cb, .int .i64 d] w fun e w' => e = .returned (.bool true) ∧ Fr (fun _ => False) w w' := by
  obtain ⟨hla, hn63⟩ := ha.len_eq
  have hlb := hb.len_eq.1
  rw [List.length_map] at hla hlb
  have HA := hide ha
  have HB := hide hb
  have HSA := hide hSa
  have HSB := hide hSb
  have HX := hide hX
  have HY := hide hY
  have HH := hide h
  have HBD := hide hbd
  have HL := hide (And.intro hla hlb)
  clear ha hb hSa hSb hX hY h hbd hla hlb
  go_enter Tryz.func18, Tryz.ntmps18
  go_wp2_with fail
  go_loopw [7] (fun iv wr => ∃ i : Nat, iv = .int .i64 i ∧ i ≤ n ∧ Hid (Fr (fun _ => False) w wr)) (fun iv _ => n - (Go.RowKit.intOf iv).toNat)
  case atStart => exact ⟨0, rfl, Nat.zero_le _, hide (Fr.refl _ _)⟩
  case round =>
    obtain ⟨i, rfl, hin, hfr⟩ := hrel
    by_cases hlt : i < n
    · have hii : (i : Int) < n := by omega
      obtain ⟨hla, hlb⟩ := HL.out
      have hiX : i < X.length := by omega
      have hiY : i < Y.length := by omega
      obtain ⟨g, off, cp, hv, -, -, hg, hc⟩ := (HA.out.fr hfr.out (fun k hk => ⟨HSA.out k hk, fun h => h⟩)).at_ (i := i) (by rw [List.length_map]; exact hiX)
      obtain ⟨g', off', cp', hv', -, -, hg', hc'⟩ := (HB.out.fr hfr.out (fun k hk => ⟨HSB.out k hk, fun h => h⟩)).at_ (i := i) (by rw [List.length_map]; exact hiY)
      simp only [Value.slice.injEq] at hv hv'
      obtain ⟨rfl, -, rfl⟩ := hv
      obtain ⟨rfl, -, rfl⟩ := hv'
      have hgw := Nat.lt_of_lt_of_le (HSA.out g hg) hfr.out.size
      have hgw' := Nat.lt_of_lt_of_le (HSB.out g' hg') hfr.out.size
      have hm : X[i].m = shT d Y[i].m := by
        have h2 : (X.map (·.m))[i]? = ((Y.map (·.m)).map (shT d))[i]? := by rw [HH.out]
        rw [List.getElem?_map, List.getElem?_map, List.getElem?_map, List.getElem?_eq_getElem hiX, List.getElem?_eq_getElem hiY] at h2
        exact Option.some.inj h2
      have q0 := hc 0 (by decide)
      have q1 := hc 1 (by decide)
      have q2 := hc 2 (by decide)
      have q3 := hc 3 (by decide)
      have q4 := hc 4 (by decide)
      have p0 := hc' 0 (by decide)
      have p1 := hc' 1 (by decide)
      have p2 := hc' 2 (by decide)
      have p3 := hc' 3 (by decide)
      have p4 := hc' 4 (by decide)
      rw [List.getElem_map] at q0 q1 q2 q3 q4 p0 p1 p2 p3 p4
      have hx := (HX.out _ (List.getElem_mem hiX)).fr hfr.out (fun _ _ h => h)
      have hy := (HY.out _ (List.getElem_mem hiY)).fr hfr.out (fun _ _ h => h)
      obtain ⟨hbd1, hbd2⟩ := HBD.out _ (List.getElem_mem hiY)
      clear hc hc' hla hlb
      generalize X[i] = x at *
      generalize Y[i] = y at *
      clear hiX hiY
      obtain ⟨⟨tk, tn, tA, tm, tc, tt, ta⟩, oa, xm⟩ := x
      obtain ⟨⟨uk, un, uA, um, uc, ut, ua⟩, ob, ym⟩ := y
      simp only [tokC, Nat.add_zero, List.getElem?_cons_zero, List.getElem?_cons_succ, ← Nat.add_assoc] at q0 q1 q2 q3 q4 p0 p1 p2 p3 p4
      obtain ⟨x1, x2, x3, x4, x5, x6⟩ := hx
      obtain ⟨y1, y2, y3, y4, y5, y6⟩ := hy
      simp only at x1 x2 x3 x4 x5 x6 y1 y2 y3 y4 y5 y6 hm hbd1 hbd2
      have e1 : tk = uk := by rw [x1, y1, hm]; rfl
      have e2 : tn = un := by rw [x2, y2, hm]; rfl
      have e3 : tt = ut := by rw [x3, y3, hm]; rfl
      have e4 : ta = ua + d := by rw [x4, y4, hm]; simp [shT]
      have e5 : tm = um := by rw [x5, y5, hm]; rfl
      have hat : xm.attrs = ym.attrs := by rw [hm]; rfl
      have hua : 0 ≤ ua ∧ ua + d ≤ 2000000 := by rw [y4]; omega
      have hd : (d : Int) ≤ 2000000 := by omega
      rw [hat] at x6
      rw [y5] at e5
      have hum : um = tm := by rw [y5, e5]
      rw [hum] at p2 y6
      subst e1 e2 e3
      obtain ⟨ps, hps⟩ : ∃ ps, ym.attrs.map toPair = ps := ⟨_, rfl⟩
      have hpl : ps.length = tm := by rw [← hps, List.length_map, e5]
      rw [hps] at x6 y6
      have htm : tm ≤ 1000000 := by omega
      have X6 := hide x6
      have Y6 := hide y6
      have HPL := hide hpl
      have HTA := hide e4
      have HQ := hide (And.intro q0 (And.intro q1 (And.intro q2 (And.intro q3 q4))))
      have HP2 := hide p2
      have hnu := hide (And.intro hgw hgw')
      clear x1 x2 x3 x4 x5 x6 y1 y2 y3 y4 y5 y6 hm hbd1 hbd2 e4 e5 hat hum hps hpl q0 q1 q2 q3 q4
      have ew : IntKind.i64.wrap (ua + d) = ua + d := IntWalk.i64_in _ (by omega)
      go_wp2_with fail
      go_region
      have hb3 : RTokAt (wr.alloc (.cells #[.int .u8 tk, .string tn, .slice none 0 0, .string tt, .int .i64 (ua + (d : Int))] 36)).drew wr.heap.size tk tn (.slice none 0 0) tt (ua + (d : Int)) := ⟨heap_alloc_new wr _⟩
      have hf3 : Fr (fun _ => False) wr (wr.alloc (.cells #[.int .u8 tk, .string tn, .slice none 0 0, .string tt, .int .i64 (ua + (d : Int))] 36)).drew := Fr.drew (Fr.alloc (Fr.refl _ _) _)
      have hl3 : wr.heap.size < (wr.alloc (.cells #[.int .u8 tk, .string tn, .slice none 0 0, .string tt, .int .i64 (ua + (d : Int))] 36)).drew.heap.size := by show wr.heap.size < (wr.alloc (.cells #[.int .u8 tk, .string tn, .slice none 0 0, .string tt, .int .i64 (ua + (d : Int))] 36)).heap.size; simp
      generalize hW3 : (wr.alloc (.cells #[.int .u8 tk, .string tn, .slice none 0 0, .string tt, .int .i64 (ua + (d : Int))] 36)).drew = W3 at *
      clear hW3
      have HJ0 := hide (show CopyJ W3 wr.heap.size tk tn tt (ua + (d : Int)) ps W3 0 none 0 none [] from ⟨hb3, Own.nil_ _ _ _ _, fun x hx => (by cases hx), rfl, Fr.refl _ _⟩)
      have HF3 := hide hf3
      have HL3 := hide hl3
      clear hb3 hf3 hl3 p0 p1 p2 p3 p4
      generalize hW2 : wr = W2 at *
      clear hW2
      go_wp2_with fail
      go_loopw [9] (fun kv wr => ∃ (k : Nat) (A : Option Addr) (c : Nat) (o : Option Nat) (L : List RawV), kv = .int .i64 k ∧ k ≤ tm ∧ Hid (CopyJ W3 W2.heap.size tk tn tt (ua + (d : Int)) ps wr k A c o L)) (fun kv _ => tm - (Go.RowKit.intOf kv).toNat)
      case atStart => exact ⟨0, none, 0, none, [], rfl, Nat.zero_le _, HJ0⟩
      case round =>
        obtain ⟨k, A, c, o, L, rfl, hkm, hJ⟩ := hrel
        have hfw := hide (show Fr (fun x => x = W2.heap.size) W2 wr from (HF3.out.mono (fun _ h => h.elim)).trans hJ.out.fr)
        have ng : ¬ g = W2.heap.size := by omega
        have ng' : ¬ g' = W2.heap.size := by omega
        have p2 := (hfw.out.cell (p := ⟨g', off' + i * 5 + 2, none⟩) hgw' ng').trans HP2.out
        obtain ⟨z0, z1, z2, z3, z4, z5⟩ := hJ.out.tok.facts
        by_cases hkt : k < tm
        · have hki : (k : Int) < tm := by omega
          have hLk : L.length = k := by
            obtain ⟨A', c', hv, -, -⟩ := hJ.out.own.form
            simp only [Value.slice.injEq] at hv
            exact hv.2.1.symm
          subst hLk
          have hkp : L.length < ps.length := by rw [HPL.out]; exact hkt
          obtain ⟨gb, offb, rfl, hob, -, hgb, -, hcb⟩ := own_some Y6.out (by omega)
          have b0 := hcb L.length hkp 0 (by decide)
          have b1 := hcb L.length hkp 1 (by decide)
          have ngb : ¬ gb = W2.heap.size := by omega
          have htk : ps.take (L.length + 1) = ps.take L.length ++ [ps[L.length]] := by rw [List.take_add_one, List.getElem?_eq_getElem hkp]; rfl
          have HTK := hide htk
          clear hcb htk
          generalize ps[L.length] = q at *
          obtain ⟨xn, xv⟩ := q
          simp only [pairC, Nat.add_zero, List.getElem?_cons_zero, List.getElem?_cons_succ, ← Nat.add_assoc] at b0 b1
          have c0 := (hfw.out.cell (p := ⟨gb, offb + L.length * 2, none⟩) hgb ngb).trans b0
          have c1 := (hfw.out.cell (p := ⟨gb, offb + L.length * 2 + 1, none⟩) hgb ngb).trans b1
          have OWN2 := hide hJ.out.own
          have HLEN := hide (show L.length ≤ 1000000 by omega)
          have nb : ¬ o = some W2.heap.size := fun e => by have := (hJ.out.new _ e).1; have := HL3.out; omega
          have ltb : W2.heap.size < wr.heap.size := hJ.out.tok.lt
          have HOB := hide hob
          clear b0 b1 hob hkp
          obtain ⟨v', w4, o', hrun0, hown, hfr', hnew⟩ := run_append_Own (P := Tryz.prog) (C := rawC) (ty := 34) el_rraw (wr.drew.alloc (.cells #[.string xn, .string xv, .int .i64 0] 90)) (OWN2.out.fr (Fr.alloc (Fr.drew (Fr.refl (fun _ => False) _)) _) (fun _ _ h => h)) (rd_raw wr.drew ⟨xn, xv, 0⟩ 90 1 (Nat.le_refl _) (by simp [maxLen])) (by have := HLEN.out; simp; omega)
          obtain ⟨A', cap', hv', -, -⟩ := hown.form
          rw [List.length_append] at hv'
          subst hv'
          have hrun : (appSem #[34, 34] 34 #[.slice A L.length c, .slice (some ⟨wr.heap.size, 0, none⟩) 1 1]).run Tryz.prog (wr.alloc (.cells #[.string xn, .string xv, .int .i64 0] 90)).drew = .ok (.slice A' (L.length + 1) cap') w4 := hrun0
          have hfr1 := hide ((Fr.alloc (Fr.drew (Fr.refl (fun k => o = some k) wr)) (.cells #[.string xn, .string xv, .int .i64 0] 90)).trans hfr')
          have j1 := (hfr1.out.cell (p := ⟨W2.heap.size, 2, none⟩) ltb nb).trans z2
          have fz := (hfr1.out.frozen (p := ⟨W2.heap.size, 2, none⟩) ltb nb).trans (z5 2)
          have HOW := hide hown
          have HNW := hide hnew
          clear hrun0 hown hnew hfr'
          go_wp2_with fail
          go_region
          · go_wp2_with fail
            go_roundw
            case rel =>
              have hown2 : Own rawC w4 90 (.slice A' (L.length + 1) cap') o' (L ++ [⟨xn, xv, 0⟩]) := by simpa using HOW.out
              have hA := (Fr.alloc (Fr.drew (Fr.refl (fun _ => False) wr)) (.cells #[.string xn, .string xv, .int .i64 0] 90)).size
              have hfr1 := hfr1.out
              have hs4 := hfr1.size
              have hnew2 : ∀ x, o' = some x → o = some x ∨ (wr.heap.size ≤ x ∧ x < w4.heap.size) := fun x hx => (HNW.out x hx).imp id (fun h => ⟨Nat.le_trans hA h.1, h.2⟩)
              have fs := Fr.set_b w4 W2.heap.size 2 (.slice A' (L.length + 1) cap')
              have hss := fs.size
              have h3l := HL3.out
              have hw3 := hJ.out.fr.size
              refine ⟨L.length + 1, A', cap', o', L ++ [⟨xn, xv, 0⟩], by go_num, by omega, hide ⟨(hJ.out.tok.fr hfr1 nb).attrs_ _, hown2.fr fs (fun x hx e => ?_), fun x hx => ?_, ?_, ?_⟩⟩
              · rcases hnew2 x hx with h | h
                · have := (hJ.out.new x h).1; omega
                · omega
              · rcases hnew2 x hx with h | h
                · have := hJ.out.new x h
                  exact ⟨this.1, by omega⟩
                · exact ⟨by omega, by omega⟩
              · rw [HTK.out, List.map_append, hJ.out.done]
                rfl
              · exact (hJ.out.fr.then_ hfr1 (fun x h1 h2 => by
                  have h5 := (hJ.out.new x h2).1
                  omega)).trans fs
            case measure => simp [Go.RowKit.intOf]; omega
        · obtain rfl : k = tm := by omega
          have hLk : L.length = k := by
            obtain ⟨A', c', hv, -, -⟩ := hJ.out.own.form
            simp only [Value.slice.injEq] at hv
            exact hv.2.1.symm
          have hdone := hJ.out.done
          rw [List.take_of_length_le (by rw [HPL.out]; exact Nat.le_refl _)] at hdone
          obtain ⟨q0, q1, q2, q3, q4⟩ := HQ.out
          have q0 := (hfw.out.cell (p := ⟨g, off + i * 5, none⟩) hgw ng).trans q0
          have q1 := (hfw.out.cell (p := ⟨g, off + i * 5 + 1, none⟩) hgw ng).trans q1
          have q2 := (hfw.out.cell (p := ⟨g, off + i * 5 + 2, none⟩) hgw ng).trans q2
          have q3 := (hfw.out.cell (p := ⟨g, off + i * 5 + 3, none⟩) hgw ng).trans q3
          have q4 := (hfw.out.cell (p := ⟨g, off + i * 5 + 4, none⟩) hgw ng).trans q4
          rw [HTA.out] at q4
          have hx6 : Own pairC wr 38 (.slice tA k tc) oa ps := X6.out.fr hfw.out (fun x hx e => by have := X6.out.lt x hx; omega)
          have HIS := hide (fun (W : World) (f : Fr (fun _ => False) wr W) => is_true W tk tn tt (ua + (d : Int)) tA A k tc c ps L _ _ (hx6.fr f (fun _ _ h => h)).rd (hJ.out.own.fr f (fun _ _ h => h)).rd (fun x hx => (hx6.fr f (fun _ _ h => h)).lt x hx) (fun x hx => (hJ.out.own.fr f (fun _ _ h => h)).lt x hx) hdone)
          have hgr : g < wr.heap.size := Nat.lt_of_lt_of_le hgw hfw.out.size
          have hbr : W2.heap.size < wr.heap.size := hJ.out.tok.lt
          have HC := hide (And.intro q0 (And.intro q1 (And.intro q2 (And.intro q3 q4))))
          have HZ := hide (And.intro z0 (And.intro z1 (And.intro z2 (And.intro z3 z4))))
          clear hLk hdone hx6
          go_wp2_with fail
          go_region_held3 (fun w' => w'.cell? ⟨g, off + i * 5, none⟩ = some (.int .u8 tk) ∧ w'.cell? ⟨g, off + i * 5 + 1, none⟩ = some (.string tn) ∧ w'.cell? ⟨g, off + i * 5 + 2, none⟩ = some (.slice tA k tc) ∧ w'.cell? ⟨g, off + i * 5 + 3, none⟩ = some (.string tt) ∧ w'.cell? ⟨g, off + i * 5 + 4, none⟩ = some (.int .i64 (ua + (d : Int))) ∧
              w'.cell? ⟨W2.heap.size, 0, none⟩ = some (.int .u8 tk) ∧ w'.cell? ⟨W2.heap.size, 1, none⟩ = some (.string tn) ∧ w'.cell? ⟨W2.heap.size, 2, none⟩ = some (.slice A k c) ∧ w'.cell? ⟨W2.heap.size, 3, none⟩ = some (.string tt) ∧ w'.cell? ⟨W2.heap.size, 4, none⟩ = some (.int .i64 (ua + (d : Int))))
            (first
              | exact ⟨(f4.cell hgr (fun h => h)).trans HC.out.1, (f4.cell hgr (fun h => h)).trans HC.out.2.1, (f4.cell hgr (fun h => h)).trans HC.out.2.2.1, (f4.cell hgr (fun h => h)).trans HC.out.2.2.2.1, (f4.cell hgr (fun h => h)).trans HC.out.2.2.2.2, (f4.cell hbr (fun h => h)).trans HZ.out.1, (f4.cell hbr (fun h => h)).trans HZ.out.2.1, (f4.cell hbr (fun h => h)).trans HZ.out.2.2.1, (f4.cell hbr (fun h => h)).trans HZ.out.2.2.2.1, (f4.cell hbr (fun h => h)).trans HZ.out.2.2.2.2⟩
              | exact ⟨HC.out.1, HC.out.2.1, HC.out.2.2.1, HC.out.2.2.2.1, HC.out.2.2.2.2, HZ.out.1, HZ.out.2.1, HZ.out.2.2.1, HZ.out.2.2.2.1, HZ.out.2.2.2.2⟩)
            (first | (go_at_call 14; refine (HIS.out _ (Fr.drew (Fr.refl _ _))).mono ?_; rintro e w4 ⟨rfl, hf4⟩; have f4 : Fr (fun _ => False) wr w4 := (Fr.drew (Fr.refl _ _)).trans hf4))
          go_wp2_with fail
          go_roundw
          case rel => exact ⟨i + 1, by go_num, by omega, hide ((hfr.out.then_ hfw.out (fun x h1 h2 => by have := hfr.out.size; omega)).trans f4)⟩
          case measure => simp [Go.RowKit.intOf]; omega
    · obtain rfl : i = n := by omega
      go_wp2_with fail
      go_returns
      exact ⟨rfl, hfr.out⟩
end Go.Proofs.YtalbehjjgdedcaaGreatDoor
