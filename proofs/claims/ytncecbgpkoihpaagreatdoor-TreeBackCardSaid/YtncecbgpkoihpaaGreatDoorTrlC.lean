/- tree: Check. -/
import Derived.Test.YtncecbgpkoihpaaGreatDoorTrlB
import Derived.Test.YtncecbgpkoihpaaGreatDoorTrkAll
import Derived.Deep.RegionHeldLaw
namespace Go.Proofs.YtncecbgpkoihpaaGreatDoor
open Go.RowKit Go.Lib
attribute [local go_sem ↓] Go.wp_at_zero Go.wp_at_succ
def okE : Bool → Int
 | true => 0
 | false => 50
theorem zn4 {N : List NodeM} {P : List PlM} {k : Nat} (h1 : k < N.length) (h2 : k < P.length) : okPl (N.drop k) (P.drop k) = ((z54 N[k] && (decide (N[k].first = P[k].2.1) && decide (N[k].next = P[k].2.2))) && okPl (N.drop (k + 1)) (P.drop (k + 1))) := by
 rw [List.drop_eq_getElem_cons h1, List.drop_eq_getElem_cons h2, okPl]
theorem zcr (w : World) (x : NodeV) (W : World) (f : Fr (fun _ => False) (w.alloc (.cells #[.string x.name, .slice x.A x.m x.c, .string x.text, .int .i64 x.parent, .int .i64 x.first, .int .i64 x.next, .int .i64 x.at_] 81)) W) :
 W.cell? ⟨w.heap.size, 0, none⟩ = some (.string x.name) ∧ W.cell? ⟨w.heap.size, 1, none⟩ = some (.slice x.A x.m x.c) ∧ W.cell? ⟨w.heap.size, 2, none⟩ = some (.string x.text) ∧ W.cell? ⟨w.heap.size, 3, none⟩ = some (.int .i64 x.parent) ∧
  W.cell? ⟨w.heap.size, 4, none⟩ = some (.int .i64 x.first) ∧ W.cell? ⟨w.heap.size, 5, none⟩ = some (.int .i64 x.next) ∧ W.cell? ⟨w.heap.size, 6, none⟩ = some (.int .i64 x.at_) := by
 have hb := (f.block w.heap.size (by simp) (fun h => h)).trans (heap_alloc_new w _)
 refine ⟨?_, ?_, ?_, ?_, ?_, ?_, ?_⟩
 all_goals
  rw [cell_of_row _ _ _ _ _ _ hb]
  rfl
set_option maxRecDepth 100000 in
set_option maxHeartbeats 8000000 in
theorem zae (w : World) (hst : St w) (A : Option Addr) (n c : Nat) (X : List NodeX) (S : Nat → Prop) (ha : NodesRd w S (.slice A n c) X) (hS : ∀ k, S k → k < w.heap.size) (hz : ∀ x ∈ X, z56 x.model) :
 Calls Tryz.prog 46 #[.agg #[.slice A n c]] w fun e w' => e = .returned (.int .i64 (okE (z0k (X.map (·.model))))) ∧ Fr (fun _ => False) w w' := by
 obtain ⟨hla, hm63⟩ := ha.rd.lenT
 rw [List.length_map] at hla
 have fa : Fr (fun _ => False) w (w.alloc (.cells #[.slice A n c] 75)) := Fr.alloc (Fr.refl _ _) _
 have hb0 := heap_alloc_new w (.cells #[.slice A n c] 75)
 have HBX := hide (fun (W : World) (f : Fr (fun _ => False) (w.alloc (.cells #[.slice A n c] 75)) W) => show W.cell? ⟨w.heap.size, 0, none⟩ = some (.slice A n c) from by
  rw [f.cell (by simp) (fun h => h), cell_of_row _ _ _ _ _ _ hb0]; rfl)
 have FA := hide fa
 have hcm : z0k (X.map (·.model)) = (decide (n ≠ 0) && (decide (n ≤ 4096) && match z2r lk0 (X.map (·.v.parent)) with
  | none => false
  | some b => okPl (X.map (·.model)) b.pl)) := by
  unfold z0k
  rw [List.length_map, hla, List.map_map]
  rfl
 rw [hcm]
 by_cases h0 : n = 0
 · subst h0
   rw [show decide ((0 : Nat) ≠ 0) = false from rfl, Bool.false_and]
   clear hcm ha hS hz hla
   go_enter Tryz.func46, Tryz.ntmps46
   go_wp2_with fail
   go_ret
   exact ⟨rfl, FA.out⟩
 · have hn0 : ((n : Int) == 0) = false := by rw [beq_eq_false_iff_ne]; omega
   have hn1 : ¬ (n : Int) = 0 := by omega
   rw [show decide (n ≠ 0) = true from decide_eq_true h0, Bool.true_and]
   by_cases h4 : n ≤ 4096
   · have hn4 : ¬ (4096 : Int) < n := by omega
     have hn5 : ¬ 4096 < n := by omega
     have hn6 : (n : Int) ≤ 4096 := by omega
     rw [show decide (n ≤ 4096) = true from decide_eq_true h4, Bool.true_and]
     have HL := hide (zn3 (w.alloc (.cells #[.slice A n c] 75)) A n c X S (ha.fr fa (fun k hk => ⟨hS k hk, fun h => h⟩)) (fun k hk => Nat.lt_of_lt_of_le (hS k hk) fa.size) (by omega) h4)
     have HLA := hide hla
     have HA := hide ha
     have HS := hide hS
     have HZ := hide hz
     have HST := hide hst
     have hpl : ∀ b, z2r lk0 (X.map (·.v.parent)) = some b → b.pl.length = n := fun b hb => by
      have := (z5s WfL.init hb).2
      rw [List.length_map, hla] at this
      rw [this]
      exact Nat.zero_add n
     generalize z2r lk0 (X.map (·.v.parent)) = R at *
     clear hcm ha hS hz hla hst hb0 fa
     cases R with
     | none =>
       have HL1 := hide (show Calls Tryz.prog 119 #[.agg #[.slice A n c]] (w.alloc (.cells #[.slice A n c] 75)) fun e w' => e = .returned (.tuple #[.slice none 0 0, .bool false]) ∧ Fr (fun _ => False) (w.alloc (.cells #[.slice A n c] 75)) w' from HL.out)
       clear HL hpl
       go_enter Tryz.func46, Tryz.ntmps46
       go_wp2_with (go_at_call 119; refine HL1.out.mono ?_; rintro e w1 ⟨rfl, f1⟩)
       go_ret
       exact ⟨rfl, FA.out.trans f1⟩
     | some b =>
       have HPL := hide (hpl b rfl)
       have HL1 := hide (show Calls Tryz.prog 119 #[.agg #[.slice A n c]] (w.alloc (.cells #[.slice A n c] 75)) fun e w' => ∃ g, e = .returned (.tuple #[.slice (some ⟨g, 0, none⟩) n n, .bool true]) ∧ Own nodeC w' 81 (.slice (some ⟨g, 0, none⟩) n n) (some g) (b.pl.map toV) ∧ (w.alloc (.cells #[.slice A n c] 75)).heap.size ≤ g ∧ Fr (fun _ => False) (w.alloc (.cells #[.slice A n c] 75)) w' from HL.out)
       clear HL hpl
       simp only
       obtain ⟨r, hr⟩ : ∃ r, okPl (X.map (·.model)) b.pl = r := ⟨_, rfl⟩
       rw [hr]
       have HR := hide hr
       clear hr
       go_enter Tryz.func46, Tryz.ntmps46
       go_wp2_with (go_at_call 119; refine HL1.out.mono ?_; rintro e w1 ⟨g, rfl, hog, -, f1⟩; have HOG := hide hog; have F1 := hide f1; have b1 := HBX.out w1 f1; clear hog f1)
       go_loopw [27] (fun iv wr => ∃ k : Nat, iv = .int .i64 k ∧ k ≤ n ∧ Hid (Fr (fun _ => False) w1 wr) ∧ Hid (okPl ((X.map (·.model)).drop k) (b.pl.drop k) = r)) (fun iv _ => n - (Go.RowKit.intOf iv).toNat)
       case atStart => exact ⟨0, rfl, Nat.zero_le _, hide (Fr.refl _ _), hide (by rw [List.drop_zero, List.drop_zero]; exact HR.out)⟩
       case round =>
        obtain ⟨k, rfl, hk, hfr, hok⟩ := hrel
        by_cases hlt : k < n
        · have hki : (k : Int) < n := by omega
          have hkX : k < X.length := by rw [HLA.out]; exact hlt
          have hkP : k < b.pl.length := by rw [HPL.out]; exact hlt
          have fw := (FA.out.trans F1.out).trans hfr.out
          have HAW := HA.out.fr fw (fun k hk => ⟨HS.out k hk, fun h => h⟩)
          obtain ⟨g1, off, cp, hv, -, -, hg1, hc⟩ := HAW.rd.at_ (i := k) (by simpa using hkX)
          simp only [Value.slice.injEq] at hv
          obtain ⟨rfl, -, rfl⟩ := hv
          have q0 := hc 0 (by decide)
          have q1 := hc 1 (by decide)
          have q2 := hc 2 (by decide)
          have q3 := hc 3 (by decide)
          have q4 := hc 4 (by decide)
          have q5 := hc 5 (by decide)
          have q6 := hc 6 (by decide)
          rw [List.getElem_map] at q0 q1 q2 q3 q4 q5 q6
          have hOW := HOG.out.fr hfr.out (fun _ _ h => h)
          have hgl := hOW.lt g rfl
          obtain ⟨g2, off2, cp2, hv2, -, -, -, hc2⟩ := hOW.rd.at_ (i := k) (by rw [List.length_map]; exact hkP)
          simp only [Value.slice.injEq, Option.some.injEq, Addr.mk.injEq] at hv2
          obtain ⟨⟨rfl, rfl, -⟩, -⟩ := hv2
          have p4 := hc2 4 (by decide)
          have p5 := hc2 5 (by decide)
          rw [List.getElem_map, Nat.zero_add] at p4 p5
          have hstep := hok.out
          rw [zn4 (by rw [List.length_map]; exact hkX) hkP, List.getElem_map] at hstep
          have hox := HAW.ok _ (List.getElem_mem hkX)
          have hzx := HZ.out _ (List.getElem_mem hkX)
          generalize X[k] = x at *
          generalize b.pl[k] = y at *
          have HP := hide (fun (W : World) (f : Fr (fun _ => False) wr W) => zme W x S (HST.out.same (fw.trans f)) (hox.fr f (fun k hk => ⟨Nat.lt_of_lt_of_le (HS.out k hk) fw.size, fun h => h⟩)) (fun k hk => Nat.lt_of_lt_of_le (HS.out k hk) (Nat.le_trans fw.size f.size)) hzx)
          unfold zge at HP
          have HCX := hide (zcr wr x.v)
          have fal := Fr.alloc (Fr.refl (fun _ => False) wr) (.cells #[.string x.v.name, .slice x.v.A x.v.m x.v.c, .string x.v.text, .int .i64 x.v.parent, .int .i64 x.v.first, .int .i64 x.v.next, .int .i64 x.v.at_] 81)
          have p4' := (fal.cell (p := ⟨g, k * 7 + 4, none⟩) hgl (fun h => h)).trans p4
          have p5' := (fal.cell (p := ⟨g, k * 7 + 5, none⟩) hgl (fun h => h)).trans p5
          obtain ⟨⟨xn, xA, xm, xc, xt, xp, xf, xe, xa⟩, xo, xs⟩ := x
          obtain ⟨yp, yf, yn⟩ := y
          simp only [nodeC, toV, Nat.add_zero, List.getElem?_cons_zero, List.getElem?_cons_succ, ← Nat.add_assoc] at q0 q1 q2 q3 q4 q5 q6 p4' p5' HCX HP
          simp only [NodeX.model] at hstep HP
          generalize hpb : z54 _ = pb at hstep HP
          obtain ⟨x0, x1, x2, x3, x4, x5, x6⟩ := HCX.out _ (Fr.refl _ _)
          have HF := hide ((FA.out.trans F1.out).trans (hfr.out.trans fal))
          have HF1 := hide (hfr.out.trans fal)
          have hqs : wr.heap.size < (wr.alloc (.cells #[.string xn, .slice xA xm xc, .string xt, .int .i64 xp, .int .i64 xf, .int .i64 xe, .int .i64 xa] 81)).heap.size := by simp
          have hgs : g < (wr.alloc (.cells #[.string xn, .slice xA xm xc, .string xt, .int .i64 xp, .int .i64 xf, .int .i64 xe, .int .i64 xa] 81)).heap.size := by simp; omega
          have HQS := hide hqs
          have HGS := hide hgs
          have HP2 := hide (fun W (f : Fr (fun _ => False) (wr.alloc (.cells #[.string xn, .slice xA xm xc, .string xt, .int .i64 xp, .int .i64 xf, .int .i64 xe, .int .i64 xa] 81)) W) => HP.out W (fal.trans f))
          clear hc hc2 hg1 HAW hOW hkX hkP hox hzx p4 p5 hpb hgl HP HCX fal hqs hgs hok fw
          go_wp2_with fail
          generalize (wr.alloc (.cells #[.string xn, .slice xA xm xc, .string xt, .int .i64 xp, .int .i64 xf, .int .i64 xe, .int .i64 xa] 81)) = WX at *
          generalize wr.heap.size = q at *
          cases pb with
          | false =>
            obtain rfl : r = false := by rw [← hstep]; rfl
            clear hstep
            refine wp_region_any (by kernel_rfl) ?_
            try (change wpAny _ _ _ _ _ _ _ (World.drew _))
            refine wpAny_ready (rs := [0]) (by kernel_rfl) (by simp) ?_
            refine AllReady.cons rfl (fun K hK => ?_) AllReady.nil
            go_simp
            refine hK _ _ ?_
            clear hK K
            refine wpAny_ready (rs := [1]) (by kernel_rfl) (by simp) ?_
            refine AllReady.cons rfl (fun K hK => ?_) AllReady.nil
            go_simp
            go_wp2_with (go_at_call 120; refine (HP2.out _ (Fr.drew (Fr.refl _ _))).mono ?_; rintro e w3 ⟨rfl, hf3⟩; have f3 : Fr (fun _ => False) WX w3 := ⟨hf3.os, hf3.tape, hf3.output, hf3.size, hf3.block⟩; have z4 := (f3.cell HQS.out (fun h => h)).trans x4; have z5 := (f3.cell HQS.out (fun h => h)).trans x5; have y4 := (f3.cell HGS.out (fun h => h)).trans p4'; have y5 := (f3.cell HGS.out (fun h => h)).trans p5')
            refine wpAny_take (i := 2) (v := .bool true) rfl (by kernel_rfl) (by kernel_rfl) (by kernel_rfl) (fun _ _ _ h => h) (Or.inl ⟨by kernel_rfl, fun w => by go_simp⟩) ?_
            refine wpAny_take (i := 3) (v := .bool true) rfl (by kernel_rfl) (by kernel_rfl) (by kernel_rfl) (fun _ _ _ h => h) (Or.inl ⟨by kernel_rfl, fun w => by go_simp⟩) ?_
            refine wpAny_take (i := 4) (v := undef) rfl (by kernel_rfl) (by kernel_rfl) (by kernel_rfl) (fun _ _ _ h => h) (Or.inr ⟨by kernel_rfl, rfl⟩) ?_
            refine wpAny_take (i := 5) (v := undef) rfl (by kernel_rfl) (by kernel_rfl) (by kernel_rfl) (fun _ _ _ h => h) (Or.inr ⟨by kernel_rfl, rfl⟩) ?_
            refine wpAny_take (i := 6) (v := undef) rfl (by kernel_rfl) (by kernel_rfl) (by kernel_rfl) (fun _ _ _ h => h) (Or.inr ⟨by kernel_rfl, rfl⟩) ?_
            refine wpAny_take (i := 7) (v := undef) rfl (by kernel_rfl) (by kernel_rfl) (by kernel_rfl) (fun _ _ _ h => h) (Or.inr ⟨by kernel_rfl, rfl⟩) ?_
            refine wpAny_take (i := 8) (v := undef) rfl (by kernel_rfl) (by kernel_rfl) (by kernel_rfl) (fun _ _ _ h => h) (Or.inr ⟨by kernel_rfl, rfl⟩) ?_
            refine wpAny_take (i := 9) (v := undef) rfl (by kernel_rfl) (by kernel_rfl) (by kernel_rfl) (fun _ _ _ h => h) (Or.inr ⟨by kernel_rfl, rfl⟩) ?_
            refine wpAny_take (i := 10) (v := undef) rfl (by kernel_rfl) (by kernel_rfl) (by kernel_rfl) (fun _ _ _ h => h) (Or.inr ⟨by kernel_rfl, rfl⟩) ?_
            refine wpAny_take (i := 11) (v := undef) rfl (by kernel_rfl) (by kernel_rfl) (by kernel_rfl) (fun _ _ _ h => h) (Or.inr ⟨by kernel_rfl, rfl⟩) ?_
            refine wpAny_take (i := 12) (v := .bool true) rfl (by kernel_rfl) (by kernel_rfl) (by kernel_rfl) (fun _ _ _ h => h) (Or.inl ⟨by kernel_rfl, fun w => by go_simp⟩) ?_
            refine wpAny_take (i := 13) (v := .bool true) rfl (by kernel_rfl) (by kernel_rfl) (by kernel_rfl) (fun _ _ _ h => h) (Or.inl ⟨by kernel_rfl, fun w => by go_simp⟩) ?_
            refine wpAny_take (i := 14) (v := undef) rfl (by kernel_rfl) (by kernel_rfl) (by kernel_rfl) (fun _ _ _ h => h) (Or.inr ⟨by kernel_rfl, rfl⟩) ?_
            refine wpAny_take (i := 15) (v := undef) rfl (by kernel_rfl) (by kernel_rfl) (by kernel_rfl) (fun _ _ _ h => h) (Or.inr ⟨by kernel_rfl, rfl⟩) ?_
            refine wpAny_take (i := 16) (v := undef) rfl (by kernel_rfl) (by kernel_rfl) (by kernel_rfl) (fun _ _ _ h => h) (Or.inr ⟨by kernel_rfl, rfl⟩) ?_
            refine wpAny_take (i := 17) (v := undef) rfl (by kernel_rfl) (by kernel_rfl) (by kernel_rfl) (fun _ _ _ h => h) (Or.inr ⟨by kernel_rfl, rfl⟩) ?_
            refine wpAny_take (i := 18) (v := undef) rfl (by kernel_rfl) (by kernel_rfl) (by kernel_rfl) (fun _ _ _ h => h) (Or.inr ⟨by kernel_rfl, rfl⟩) ?_
            refine wpAny_take (i := 19) (v := undef) rfl (by kernel_rfl) (by kernel_rfl) (by kernel_rfl) (fun _ _ _ h => h) (Or.inr ⟨by kernel_rfl, rfl⟩) ?_
            refine wpAny_take (i := 20) (v := undef) rfl (by kernel_rfl) (by kernel_rfl) (by kernel_rfl) (fun _ _ _ h => h) (Or.inr ⟨by kernel_rfl, rfl⟩) ?_
            refine wpAny_take (i := 21) (v := undef) rfl (by kernel_rfl) (by kernel_rfl) (by kernel_rfl) (fun _ _ _ h => h) (Or.inr ⟨by kernel_rfl, rfl⟩) ?_
            refine wpAny_take (i := 22) (v := .bool true) rfl (by kernel_rfl) (by kernel_rfl) (by kernel_rfl) (fun _ _ _ h => h) (Or.inl ⟨by kernel_rfl, fun w => by go_simp⟩) ?_
            refine wpAny_done (by kernel_rfl) ?_ _
            go_simp
            go_wp2_with fail
            go_ret
            exact ⟨rfl, HF.out.trans f3⟩
          | true =>
            change (true && (decide (xf = yf) && decide (xe = yn)) && _) = r at hstep
            rw [Bool.true_and] at hstep
            have hk0 : (0 : Int) ≤ k := by omega
            by_cases he1 : xf = yf
            · rw [decide_eq_true he1, Bool.true_and] at hstep
              subst he1
              by_cases he2 : xe = yn
              · rw [decide_eq_true he2, Bool.true_and] at hstep
                subst he2
                have HNX := hide hstep
                clear hstep
                refine wp_region_any (by kernel_rfl) ?_
                try (change wpAny _ _ _ _ _ _ _ (World.drew _))
                refine wpAny_ready (rs := [0]) (by kernel_rfl) (by simp) ?_
                refine AllReady.cons rfl (fun K hK => ?_) AllReady.nil
                go_simp
                refine hK _ _ ?_
                clear hK K
                refine wpAny_ready (rs := [1]) (by kernel_rfl) (by simp) ?_
                refine AllReady.cons rfl (fun K hK => ?_) AllReady.nil
                go_simp
                go_wp2_with (go_at_call 120; refine (HP2.out _ (Fr.drew (Fr.refl _ _))).mono ?_; rintro e w3 ⟨rfl, hf3⟩; have f3 : Fr (fun _ => False) WX w3 := ⟨hf3.os, hf3.tape, hf3.output, hf3.size, hf3.block⟩; have z4 := (f3.cell HQS.out (fun h => h)).trans x4; have z5 := (f3.cell HQS.out (fun h => h)).trans x5; have y4 := (f3.cell HGS.out (fun h => h)).trans p4'; have y5 := (f3.cell HGS.out (fun h => h)).trans p5')
                refine wpAny_take (i := 2) (v := .bool false) rfl (by kernel_rfl) (by kernel_rfl) (by kernel_rfl) (fun _ _ _ h => h) (Or.inl ⟨by kernel_rfl, fun w => by go_simp⟩) ?_
                refine wpAny_take (i := 3) (v := .bool false) rfl (by kernel_rfl) (by kernel_rfl) (by kernel_rfl) (fun _ _ _ h => h) (Or.inl ⟨by kernel_rfl, fun w => by go_simp⟩) ?_
                refine wpAny_take (i := 4) (v := .pointer (some ⟨q, 4, none⟩)) rfl (by kernel_rfl) (by kernel_rfl) (by kernel_rfl) (fun _ _ _ h => h) (Or.inl ⟨by kernel_rfl, fun w => by go_simp⟩) ?_
                refine wpAny_take (i := 6) (v := .slice (some ⟨g, 0, none⟩) n n) rfl (by kernel_rfl) (by kernel_rfl) (by kernel_rfl) (fun _ _ _ h => h) (Or.inl ⟨by kernel_rfl, fun w => by go_simp⟩) ?_
                refine wpAny_take (i := 7) (v := .int .i64 k) rfl (by kernel_rfl) (by kernel_rfl) (by kernel_rfl) (fun _ _ _ h => h) (Or.inl ⟨by kernel_rfl, fun w => by go_simp⟩) ?_
                refine wpAny_take (i := 8) (v := .pointer (some ⟨g, k * 7, none⟩)) rfl (by kernel_rfl) (by kernel_rfl) (by kernel_rfl) (fun _ _ _ h => h) (Or.inl ⟨by kernel_rfl, fun w => by go_simp⟩) ?_
                refine wpAny_take (i := 9) (v := .pointer (some ⟨g, k * 7 + 4, none⟩)) rfl (by kernel_rfl) (by kernel_rfl) (by kernel_rfl) (fun _ _ _ h => h) (Or.inl ⟨by kernel_rfl, fun w => by go_simp⟩) ?_
                refine wpAny_ready (rs := [5, 10]) (by kernel_rfl) (by simp) ?_
                refine AllReady.cons rfl (fun K hK => ?_) (AllReady.cons rfl (fun K hK => ?_) AllReady.nil)
                · go_simp
                  refine hK _ _ ?_
                  clear hK K
                  refine wpAny_ready (rs := [10]) (by kernel_rfl) (by simp) ?_
                  refine AllReady.cons rfl (fun K hK => ?_) AllReady.nil
                  go_simp
                  refine hK _ _ ?_
                  clear hK K
                  refine wpAny_take (i := 11) (v := .bool false) rfl (by kernel_rfl) (by kernel_rfl) (by kernel_rfl) (fun _ _ _ h => h) (Or.inl ⟨by kernel_rfl, fun w => by go_simp⟩) ?_
                  refine wpAny_take (i := 12) (v := .bool false) rfl (by kernel_rfl) (by kernel_rfl) (by kernel_rfl) (fun _ _ _ h => h) (Or.inl ⟨by kernel_rfl, fun w => by go_simp⟩) ?_
                  refine wpAny_take (i := 13) (v := .bool false) rfl (by kernel_rfl) (by kernel_rfl) (by kernel_rfl) (fun _ _ _ h => h) (Or.inl ⟨by kernel_rfl, fun w => by go_simp⟩) ?_
                  refine wpAny_take (i := 14) (v := .pointer (some ⟨q, 5, none⟩)) rfl (by kernel_rfl) (by kernel_rfl) (by kernel_rfl) (fun _ _ _ h => h) (Or.inl ⟨by kernel_rfl, fun w => by go_simp⟩) ?_
                  refine wpAny_take (i := 16) (v := .slice (some ⟨g, 0, none⟩) n n) rfl (by kernel_rfl) (by kernel_rfl) (by kernel_rfl) (fun _ _ _ h => h) (Or.inl ⟨by kernel_rfl, fun w => by go_simp⟩) ?_
                  refine wpAny_take (i := 17) (v := .int .i64 k) rfl (by kernel_rfl) (by kernel_rfl) (by kernel_rfl) (fun _ _ _ h => h) (Or.inl ⟨by kernel_rfl, fun w => by go_simp⟩) ?_
                  refine wpAny_take (i := 18) (v := .pointer (some ⟨g, k * 7, none⟩)) rfl (by kernel_rfl) (by kernel_rfl) (by kernel_rfl) (fun _ _ _ h => h) (Or.inl ⟨by kernel_rfl, fun w => by go_simp⟩) ?_
                  refine wpAny_take (i := 19) (v := .pointer (some ⟨g, k * 7 + 5, none⟩)) rfl (by kernel_rfl) (by kernel_rfl) (by kernel_rfl) (fun _ _ _ h => h) (Or.inl ⟨by kernel_rfl, fun w => by go_simp⟩) ?_
                  refine wpAny_ready (rs := [15, 20]) (by kernel_rfl) (by simp) ?_
                  refine AllReady.cons rfl (fun K hK => ?_) (AllReady.cons rfl (fun K hK => ?_) AllReady.nil)
                  · go_simp
                    refine hK _ _ ?_
                    clear hK K
                    refine wpAny_ready (rs := [20]) (by kernel_rfl) (by simp) ?_
                    refine AllReady.cons rfl (fun K hK => ?_) AllReady.nil
                    go_simp
                    refine hK _ _ ?_
                    clear hK K
                    refine wpAny_take (i := 21) (v := .bool false) rfl (by kernel_rfl) (by kernel_rfl) (by kernel_rfl) (fun _ _ _ h => h) (Or.inl ⟨by kernel_rfl, fun w => by go_simp⟩) ?_
                    refine wpAny_take (i := 22) (v := .bool false) rfl (by kernel_rfl) (by kernel_rfl) (by kernel_rfl) (fun _ _ _ h => h) (Or.inl ⟨by kernel_rfl, fun w => by go_simp⟩) ?_
                    refine wpAny_done (by kernel_rfl) ?_ _
                    go_simp
                    go_wp2_with fail
                    first
                     | exact ⟨⟨k + 1, by go_num, by omega, hide (HF1.out.trans f3), HNX⟩, by simp [Go.RowKit.intOf]; omega⟩
                     | (go_roundw
                        case rel => exact ⟨k + 1, by go_num, by omega, hide (HF1.out.trans f3), HNX⟩
                        case measure => simp [Go.RowKit.intOf]; omega)
                  · go_simp
                    refine hK _ _ ?_
                    clear hK K
                    refine wpAny_ready (rs := [15]) (by kernel_rfl) (by simp) ?_
                    refine AllReady.cons rfl (fun K hK => ?_) AllReady.nil
                    go_simp
                    refine hK _ _ ?_
                    clear hK K
                    refine wpAny_take (i := 21) (v := .bool false) rfl (by kernel_rfl) (by kernel_rfl) (by kernel_rfl) (fun _ _ _ h => h) (Or.inl ⟨by kernel_rfl, fun w => by go_simp⟩) ?_
                    refine wpAny_take (i := 22) (v := .bool false) rfl (by kernel_rfl) (by kernel_rfl) (by kernel_rfl) (fun _ _ _ h => h) (Or.inl ⟨by kernel_rfl, fun w => by go_simp⟩) ?_
                    refine wpAny_done (by kernel_rfl) ?_ _
                    go_simp
                    go_wp2_with fail
                    first
                     | exact ⟨⟨k + 1, by go_num, by omega, hide (HF1.out.trans f3), HNX⟩, by simp [Go.RowKit.intOf]; omega⟩
                     | (go_roundw
                        case rel => exact ⟨k + 1, by go_num, by omega, hide (HF1.out.trans f3), HNX⟩
                        case measure => simp [Go.RowKit.intOf]; omega)
                · go_simp
                  refine hK _ _ ?_
                  clear hK K
                  refine wpAny_ready (rs := [5]) (by kernel_rfl) (by simp) ?_
                  refine AllReady.cons rfl (fun K hK => ?_) AllReady.nil
                  go_simp
                  refine hK _ _ ?_
                  clear hK K
                  refine wpAny_take (i := 11) (v := .bool false) rfl (by kernel_rfl) (by kernel_rfl) (by kernel_rfl) (fun _ _ _ h => h) (Or.inl ⟨by kernel_rfl, fun w => by go_simp⟩) ?_
                  refine wpAny_take (i := 12) (v := .bool false) rfl (by kernel_rfl) (by kernel_rfl) (by kernel_rfl) (fun _ _ _ h => h) (Or.inl ⟨by kernel_rfl, fun w => by go_simp⟩) ?_
                  refine wpAny_take (i := 13) (v := .bool false) rfl (by kernel_rfl) (by kernel_rfl) (by kernel_rfl) (fun _ _ _ h => h) (Or.inl ⟨by kernel_rfl, fun w => by go_simp⟩) ?_
                  refine wpAny_take (i := 14) (v := .pointer (some ⟨q, 5, none⟩)) rfl (by kernel_rfl) (by kernel_rfl) (by kernel_rfl) (fun _ _ _ h => h) (Or.inl ⟨by kernel_rfl, fun w => by go_simp⟩) ?_
                  refine wpAny_take (i := 16) (v := .slice (some ⟨g, 0, none⟩) n n) rfl (by kernel_rfl) (by kernel_rfl) (by kernel_rfl) (fun _ _ _ h => h) (Or.inl ⟨by kernel_rfl, fun w => by go_simp⟩) ?_
                  refine wpAny_take (i := 17) (v := .int .i64 k) rfl (by kernel_rfl) (by kernel_rfl) (by kernel_rfl) (fun _ _ _ h => h) (Or.inl ⟨by kernel_rfl, fun w => by go_simp⟩) ?_
                  refine wpAny_take (i := 18) (v := .pointer (some ⟨g, k * 7, none⟩)) rfl (by kernel_rfl) (by kernel_rfl) (by kernel_rfl) (fun _ _ _ h => h) (Or.inl ⟨by kernel_rfl, fun w => by go_simp⟩) ?_
                  refine wpAny_take (i := 19) (v := .pointer (some ⟨g, k * 7 + 5, none⟩)) rfl (by kernel_rfl) (by kernel_rfl) (by kernel_rfl) (fun _ _ _ h => h) (Or.inl ⟨by kernel_rfl, fun w => by go_simp⟩) ?_
                  refine wpAny_ready (rs := [15, 20]) (by kernel_rfl) (by simp) ?_
                  refine AllReady.cons rfl (fun K hK => ?_) (AllReady.cons rfl (fun K hK => ?_) AllReady.nil)
                  · go_simp
                    refine hK _ _ ?_
                    clear hK K
                    refine wpAny_ready (rs := [20]) (by kernel_rfl) (by simp) ?_
                    refine AllReady.cons rfl (fun K hK => ?_) AllReady.nil
                    go_simp
                    refine hK _ _ ?_
                    clear hK K
                    refine wpAny_take (i := 21) (v := .bool false) rfl (by kernel_rfl) (by kernel_rfl) (by kernel_rfl) (fun _ _ _ h => h) (Or.inl ⟨by kernel_rfl, fun w => by go_simp⟩) ?_
                    refine wpAny_take (i := 22) (v := .bool false) rfl (by kernel_rfl) (by kernel_rfl) (by kernel_rfl) (fun _ _ _ h => h) (Or.inl ⟨by kernel_rfl, fun w => by go_simp⟩) ?_
                    refine wpAny_done (by kernel_rfl) ?_ _
                    go_simp
                    go_wp2_with fail
                    first
                     | exact ⟨⟨k + 1, by go_num, by omega, hide (HF1.out.trans f3), HNX⟩, by simp [Go.RowKit.intOf]; omega⟩
                     | (go_roundw
                        case rel => exact ⟨k + 1, by go_num, by omega, hide (HF1.out.trans f3), HNX⟩
                        case measure => simp [Go.RowKit.intOf]; omega)
                  · go_simp
                    refine hK _ _ ?_
                    clear hK K
                    refine wpAny_ready (rs := [15]) (by kernel_rfl) (by simp) ?_
                    refine AllReady.cons rfl (fun K hK => ?_) AllReady.nil
                    go_simp
                    refine hK _ _ ?_
                    clear hK K
                    refine wpAny_take (i := 21) (v := .bool false) rfl (by kernel_rfl) (by kernel_rfl) (by kernel_rfl) (fun _ _ _ h => h) (Or.inl ⟨by kernel_rfl, fun w => by go_simp⟩) ?_
                    refine wpAny_take (i := 22) (v := .bool false) rfl (by kernel_rfl) (by kernel_rfl) (by kernel_rfl) (fun _ _ _ h => h) (Or.inl ⟨by kernel_rfl, fun w => by go_simp⟩) ?_
                    refine wpAny_done (by kernel_rfl) ?_ _
                    go_simp
                    go_wp2_with fail
                    first
                     | exact ⟨⟨k + 1, by go_num, by omega, hide (HF1.out.trans f3), HNX⟩, by simp [Go.RowKit.intOf]; omega⟩
                     | (go_roundw
                        case rel => exact ⟨k + 1, by go_num, by omega, hide (HF1.out.trans f3), HNX⟩
                        case measure => simp [Go.RowKit.intOf]; omega)
              · rw [decide_eq_false he2, Bool.false_and] at hstep
                subst hstep
                have he3 : (xe == yn) = false := by rw [beq_eq_false_iff_ne]; exact he2
                refine wp_region_any (by kernel_rfl) ?_
                try (change wpAny _ _ _ _ _ _ _ (World.drew _))
                refine wpAny_ready (rs := [0]) (by kernel_rfl) (by simp) ?_
                refine AllReady.cons rfl (fun K hK => ?_) AllReady.nil
                go_simp
                refine hK _ _ ?_
                clear hK K
                refine wpAny_ready (rs := [1]) (by kernel_rfl) (by simp) ?_
                refine AllReady.cons rfl (fun K hK => ?_) AllReady.nil
                go_simp
                go_wp2_with (go_at_call 120; refine (HP2.out _ (Fr.drew (Fr.refl _ _))).mono ?_; rintro e w3 ⟨rfl, hf3⟩; have f3 : Fr (fun _ => False) WX w3 := ⟨hf3.os, hf3.tape, hf3.output, hf3.size, hf3.block⟩; have z4 := (f3.cell HQS.out (fun h => h)).trans x4; have z5 := (f3.cell HQS.out (fun h => h)).trans x5; have y4 := (f3.cell HGS.out (fun h => h)).trans p4'; have y5 := (f3.cell HGS.out (fun h => h)).trans p5')
                refine wpAny_take (i := 2) (v := .bool false) rfl (by kernel_rfl) (by kernel_rfl) (by kernel_rfl) (fun _ _ _ h => h) (Or.inl ⟨by kernel_rfl, fun w => by go_simp⟩) ?_
                refine wpAny_take (i := 3) (v := .bool false) rfl (by kernel_rfl) (by kernel_rfl) (by kernel_rfl) (fun _ _ _ h => h) (Or.inl ⟨by kernel_rfl, fun w => by go_simp⟩) ?_
                refine wpAny_take (i := 4) (v := .pointer (some ⟨q, 4, none⟩)) rfl (by kernel_rfl) (by kernel_rfl) (by kernel_rfl) (fun _ _ _ h => h) (Or.inl ⟨by kernel_rfl, fun w => by go_simp⟩) ?_
                refine wpAny_take (i := 6) (v := .slice (some ⟨g, 0, none⟩) n n) rfl (by kernel_rfl) (by kernel_rfl) (by kernel_rfl) (fun _ _ _ h => h) (Or.inl ⟨by kernel_rfl, fun w => by go_simp⟩) ?_
                refine wpAny_take (i := 7) (v := .int .i64 k) rfl (by kernel_rfl) (by kernel_rfl) (by kernel_rfl) (fun _ _ _ h => h) (Or.inl ⟨by kernel_rfl, fun w => by go_simp⟩) ?_
                refine wpAny_take (i := 8) (v := .pointer (some ⟨g, k * 7, none⟩)) rfl (by kernel_rfl) (by kernel_rfl) (by kernel_rfl) (fun _ _ _ h => h) (Or.inl ⟨by kernel_rfl, fun w => by go_simp⟩) ?_
                refine wpAny_take (i := 9) (v := .pointer (some ⟨g, k * 7 + 4, none⟩)) rfl (by kernel_rfl) (by kernel_rfl) (by kernel_rfl) (fun _ _ _ h => h) (Or.inl ⟨by kernel_rfl, fun w => by go_simp⟩) ?_
                refine wpAny_ready (rs := [5, 10]) (by kernel_rfl) (by simp) ?_
                refine AllReady.cons rfl (fun K hK => ?_) (AllReady.cons rfl (fun K hK => ?_) AllReady.nil)
                · go_simp
                  refine hK _ _ ?_
                  clear hK K
                  refine wpAny_ready (rs := [10]) (by kernel_rfl) (by simp) ?_
                  refine AllReady.cons rfl (fun K hK => ?_) AllReady.nil
                  go_simp
                  refine hK _ _ ?_
                  clear hK K
                  refine wpAny_take (i := 11) (v := .bool false) rfl (by kernel_rfl) (by kernel_rfl) (by kernel_rfl) (fun _ _ _ h => h) (Or.inl ⟨by kernel_rfl, fun w => by go_simp⟩) ?_
                  refine wpAny_take (i := 12) (v := .bool false) rfl (by kernel_rfl) (by kernel_rfl) (by kernel_rfl) (fun _ _ _ h => h) (Or.inl ⟨by kernel_rfl, fun w => by go_simp⟩) ?_
                  refine wpAny_take (i := 13) (v := .bool false) rfl (by kernel_rfl) (by kernel_rfl) (by kernel_rfl) (fun _ _ _ h => h) (Or.inl ⟨by kernel_rfl, fun w => by go_simp⟩) ?_
                  refine wpAny_take (i := 14) (v := .pointer (some ⟨q, 5, none⟩)) rfl (by kernel_rfl) (by kernel_rfl) (by kernel_rfl) (fun _ _ _ h => h) (Or.inl ⟨by kernel_rfl, fun w => by go_simp⟩) ?_
                  refine wpAny_take (i := 16) (v := .slice (some ⟨g, 0, none⟩) n n) rfl (by kernel_rfl) (by kernel_rfl) (by kernel_rfl) (fun _ _ _ h => h) (Or.inl ⟨by kernel_rfl, fun w => by go_simp⟩) ?_
                  refine wpAny_take (i := 17) (v := .int .i64 k) rfl (by kernel_rfl) (by kernel_rfl) (by kernel_rfl) (fun _ _ _ h => h) (Or.inl ⟨by kernel_rfl, fun w => by go_simp⟩) ?_
                  refine wpAny_take (i := 18) (v := .pointer (some ⟨g, k * 7, none⟩)) rfl (by kernel_rfl) (by kernel_rfl) (by kernel_rfl) (fun _ _ _ h => h) (Or.inl ⟨by kernel_rfl, fun w => by go_simp⟩) ?_
                  refine wpAny_take (i := 19) (v := .pointer (some ⟨g, k * 7 + 5, none⟩)) rfl (by kernel_rfl) (by kernel_rfl) (by kernel_rfl) (fun _ _ _ h => h) (Or.inl ⟨by kernel_rfl, fun w => by go_simp⟩) ?_
                  refine wpAny_ready (rs := [15, 20]) (by kernel_rfl) (by simp) ?_
                  refine AllReady.cons rfl (fun K hK => ?_) (AllReady.cons rfl (fun K hK => ?_) AllReady.nil)
                  · go_simp
                    refine hK _ _ ?_
                    clear hK K
                    refine wpAny_ready (rs := [20]) (by kernel_rfl) (by simp) ?_
                    refine AllReady.cons rfl (fun K hK => ?_) AllReady.nil
                    go_simp
                    refine hK _ _ ?_
                    clear hK K
                    refine wpAny_take (i := 21) (v := .bool true) rfl (by kernel_rfl) (by kernel_rfl) (by kernel_rfl) (fun _ _ _ h => h) (Or.inl ⟨by kernel_rfl, fun w => by go_simp⟩) ?_
                    refine wpAny_take (i := 22) (v := .bool true) rfl (by kernel_rfl) (by kernel_rfl) (by kernel_rfl) (fun _ _ _ h => h) (Or.inl ⟨by kernel_rfl, fun w => by go_simp⟩) ?_
                    refine wpAny_done (by kernel_rfl) ?_ _
                    go_simp
                    go_wp2_with fail
                    go_ret
                    exact ⟨rfl, HF.out.trans f3⟩
                  · go_simp
                    refine hK _ _ ?_
                    clear hK K
                    refine wpAny_ready (rs := [15]) (by kernel_rfl) (by simp) ?_
                    refine AllReady.cons rfl (fun K hK => ?_) AllReady.nil
                    go_simp
                    refine hK _ _ ?_
                    clear hK K
                    refine wpAny_take (i := 21) (v := .bool true) rfl (by kernel_rfl) (by kernel_rfl) (by kernel_rfl) (fun _ _ _ h => h) (Or.inl ⟨by kernel_rfl, fun w => by go_simp⟩) ?_
                    refine wpAny_take (i := 22) (v := .bool true) rfl (by kernel_rfl) (by kernel_rfl) (by kernel_rfl) (fun _ _ _ h => h) (Or.inl ⟨by kernel_rfl, fun w => by go_simp⟩) ?_
                    refine wpAny_done (by kernel_rfl) ?_ _
                    go_simp
                    go_wp2_with fail
                    go_ret
                    exact ⟨rfl, HF.out.trans f3⟩
                · go_simp
                  refine hK _ _ ?_
                  clear hK K
                  refine wpAny_ready (rs := [5]) (by kernel_rfl) (by simp) ?_
                  refine AllReady.cons rfl (fun K hK => ?_) AllReady.nil
                  go_simp
                  refine hK _ _ ?_
                  clear hK K
                  refine wpAny_take (i := 11) (v := .bool false) rfl (by kernel_rfl) (by kernel_rfl) (by kernel_rfl) (fun _ _ _ h => h) (Or.inl ⟨by kernel_rfl, fun w => by go_simp⟩) ?_
                  refine wpAny_take (i := 12) (v := .bool false) rfl (by kernel_rfl) (by kernel_rfl) (by kernel_rfl) (fun _ _ _ h => h) (Or.inl ⟨by kernel_rfl, fun w => by go_simp⟩) ?_
                  refine wpAny_take (i := 13) (v := .bool false) rfl (by kernel_rfl) (by kernel_rfl) (by kernel_rfl) (fun _ _ _ h => h) (Or.inl ⟨by kernel_rfl, fun w => by go_simp⟩) ?_
                  refine wpAny_take (i := 14) (v := .pointer (some ⟨q, 5, none⟩)) rfl (by kernel_rfl) (by kernel_rfl) (by kernel_rfl) (fun _ _ _ h => h) (Or.inl ⟨by kernel_rfl, fun w => by go_simp⟩) ?_
                  refine wpAny_take (i := 16) (v := .slice (some ⟨g, 0, none⟩) n n) rfl (by kernel_rfl) (by kernel_rfl) (by kernel_rfl) (fun _ _ _ h => h) (Or.inl ⟨by kernel_rfl, fun w => by go_simp⟩) ?_
                  refine wpAny_take (i := 17) (v := .int .i64 k) rfl (by kernel_rfl) (by kernel_rfl) (by kernel_rfl) (fun _ _ _ h => h) (Or.inl ⟨by kernel_rfl, fun w => by go_simp⟩) ?_
                  refine wpAny_take (i := 18) (v := .pointer (some ⟨g, k * 7, none⟩)) rfl (by kernel_rfl) (by kernel_rfl) (by kernel_rfl) (fun _ _ _ h => h) (Or.inl ⟨by kernel_rfl, fun w => by go_simp⟩) ?_
                  refine wpAny_take (i := 19) (v := .pointer (some ⟨g, k * 7 + 5, none⟩)) rfl (by kernel_rfl) (by kernel_rfl) (by kernel_rfl) (fun _ _ _ h => h) (Or.inl ⟨by kernel_rfl, fun w => by go_simp⟩) ?_
                  refine wpAny_ready (rs := [15, 20]) (by kernel_rfl) (by simp) ?_
                  refine AllReady.cons rfl (fun K hK => ?_) (AllReady.cons rfl (fun K hK => ?_) AllReady.nil)
                  · go_simp
                    refine hK _ _ ?_
                    clear hK K
                    refine wpAny_ready (rs := [20]) (by kernel_rfl) (by simp) ?_
                    refine AllReady.cons rfl (fun K hK => ?_) AllReady.nil
                    go_simp
                    refine hK _ _ ?_
                    clear hK K
                    refine wpAny_take (i := 21) (v := .bool true) rfl (by kernel_rfl) (by kernel_rfl) (by kernel_rfl) (fun _ _ _ h => h) (Or.inl ⟨by kernel_rfl, fun w => by go_simp⟩) ?_
                    refine wpAny_take (i := 22) (v := .bool true) rfl (by kernel_rfl) (by kernel_rfl) (by kernel_rfl) (fun _ _ _ h => h) (Or.inl ⟨by kernel_rfl, fun w => by go_simp⟩) ?_
                    refine wpAny_done (by kernel_rfl) ?_ _
                    go_simp
                    go_wp2_with fail
                    go_ret
                    exact ⟨rfl, HF.out.trans f3⟩
                  · go_simp
                    refine hK _ _ ?_
                    clear hK K
                    refine wpAny_ready (rs := [15]) (by kernel_rfl) (by simp) ?_
                    refine AllReady.cons rfl (fun K hK => ?_) AllReady.nil
                    go_simp
                    refine hK _ _ ?_
                    clear hK K
                    refine wpAny_take (i := 21) (v := .bool true) rfl (by kernel_rfl) (by kernel_rfl) (by kernel_rfl) (fun _ _ _ h => h) (Or.inl ⟨by kernel_rfl, fun w => by go_simp⟩) ?_
                    refine wpAny_take (i := 22) (v := .bool true) rfl (by kernel_rfl) (by kernel_rfl) (by kernel_rfl) (fun _ _ _ h => h) (Or.inl ⟨by kernel_rfl, fun w => by go_simp⟩) ?_
                    refine wpAny_done (by kernel_rfl) ?_ _
                    go_simp
                    go_wp2_with fail
                    go_ret
                    exact ⟨rfl, HF.out.trans f3⟩
            · rw [decide_eq_false he1, Bool.false_and, Bool.false_and] at hstep
              subst hstep
              have he3 : (xf == yf) = false := by rw [beq_eq_false_iff_ne]; exact he1
              refine wp_region_any (by kernel_rfl) ?_
              try (change wpAny _ _ _ _ _ _ _ (World.drew _))
              refine wpAny_ready (rs := [0]) (by kernel_rfl) (by simp) ?_
              refine AllReady.cons rfl (fun K hK => ?_) AllReady.nil
              go_simp
              refine hK _ _ ?_
              clear hK K
              refine wpAny_ready (rs := [1]) (by kernel_rfl) (by simp) ?_
              refine AllReady.cons rfl (fun K hK => ?_) AllReady.nil
              go_simp
              go_wp2_with (go_at_call 120; refine (HP2.out _ (Fr.drew (Fr.refl _ _))).mono ?_; rintro e w3 ⟨rfl, hf3⟩; have f3 : Fr (fun _ => False) WX w3 := ⟨hf3.os, hf3.tape, hf3.output, hf3.size, hf3.block⟩; have z4 := (f3.cell HQS.out (fun h => h)).trans x4; have z5 := (f3.cell HQS.out (fun h => h)).trans x5; have y4 := (f3.cell HGS.out (fun h => h)).trans p4'; have y5 := (f3.cell HGS.out (fun h => h)).trans p5')
              refine wpAny_take (i := 2) (v := .bool false) rfl (by kernel_rfl) (by kernel_rfl) (by kernel_rfl) (fun _ _ _ h => h) (Or.inl ⟨by kernel_rfl, fun w => by go_simp⟩) ?_
              refine wpAny_take (i := 3) (v := .bool false) rfl (by kernel_rfl) (by kernel_rfl) (by kernel_rfl) (fun _ _ _ h => h) (Or.inl ⟨by kernel_rfl, fun w => by go_simp⟩) ?_
              refine wpAny_take (i := 4) (v := .pointer (some ⟨q, 4, none⟩)) rfl (by kernel_rfl) (by kernel_rfl) (by kernel_rfl) (fun _ _ _ h => h) (Or.inl ⟨by kernel_rfl, fun w => by go_simp⟩) ?_
              refine wpAny_take (i := 6) (v := .slice (some ⟨g, 0, none⟩) n n) rfl (by kernel_rfl) (by kernel_rfl) (by kernel_rfl) (fun _ _ _ h => h) (Or.inl ⟨by kernel_rfl, fun w => by go_simp⟩) ?_
              refine wpAny_take (i := 7) (v := .int .i64 k) rfl (by kernel_rfl) (by kernel_rfl) (by kernel_rfl) (fun _ _ _ h => h) (Or.inl ⟨by kernel_rfl, fun w => by go_simp⟩) ?_
              refine wpAny_take (i := 8) (v := .pointer (some ⟨g, k * 7, none⟩)) rfl (by kernel_rfl) (by kernel_rfl) (by kernel_rfl) (fun _ _ _ h => h) (Or.inl ⟨by kernel_rfl, fun w => by go_simp⟩) ?_
              refine wpAny_take (i := 9) (v := .pointer (some ⟨g, k * 7 + 4, none⟩)) rfl (by kernel_rfl) (by kernel_rfl) (by kernel_rfl) (fun _ _ _ h => h) (Or.inl ⟨by kernel_rfl, fun w => by go_simp⟩) ?_
              refine wpAny_ready (rs := [5, 10]) (by kernel_rfl) (by simp) ?_
              refine AllReady.cons rfl (fun K hK => ?_) (AllReady.cons rfl (fun K hK => ?_) AllReady.nil)
              · go_simp
                refine hK _ _ ?_
                clear hK K
                refine wpAny_ready (rs := [10]) (by kernel_rfl) (by simp) ?_
                refine AllReady.cons rfl (fun K hK => ?_) AllReady.nil
                go_simp
                refine hK _ _ ?_
                clear hK K
                refine wpAny_take (i := 11) (v := .bool true) rfl (by kernel_rfl) (by kernel_rfl) (by kernel_rfl) (fun _ _ _ h => h) (Or.inl ⟨by kernel_rfl, fun w => by go_simp⟩) ?_
                refine wpAny_take (i := 12) (v := .bool true) rfl (by kernel_rfl) (by kernel_rfl) (by kernel_rfl) (fun _ _ _ h => h) (Or.inl ⟨by kernel_rfl, fun w => by go_simp⟩) ?_
                refine wpAny_take (i := 13) (v := .bool true) rfl (by kernel_rfl) (by kernel_rfl) (by kernel_rfl) (fun _ _ _ h => h) (Or.inl ⟨by kernel_rfl, fun w => by go_simp⟩) ?_
                refine wpAny_take (i := 14) (v := undef) rfl (by kernel_rfl) (by kernel_rfl) (by kernel_rfl) (fun _ _ _ h => h) (Or.inr ⟨by kernel_rfl, rfl⟩) ?_
                refine wpAny_take (i := 15) (v := undef) rfl (by kernel_rfl) (by kernel_rfl) (by kernel_rfl) (fun _ _ _ h => h) (Or.inr ⟨by kernel_rfl, rfl⟩) ?_
                refine wpAny_take (i := 16) (v := undef) rfl (by kernel_rfl) (by kernel_rfl) (by kernel_rfl) (fun _ _ _ h => h) (Or.inr ⟨by kernel_rfl, rfl⟩) ?_
                refine wpAny_take (i := 17) (v := undef) rfl (by kernel_rfl) (by kernel_rfl) (by kernel_rfl) (fun _ _ _ h => h) (Or.inr ⟨by kernel_rfl, rfl⟩) ?_
                refine wpAny_take (i := 18) (v := undef) rfl (by kernel_rfl) (by kernel_rfl) (by kernel_rfl) (fun _ _ _ h => h) (Or.inr ⟨by kernel_rfl, rfl⟩) ?_
                refine wpAny_take (i := 19) (v := undef) rfl (by kernel_rfl) (by kernel_rfl) (by kernel_rfl) (fun _ _ _ h => h) (Or.inr ⟨by kernel_rfl, rfl⟩) ?_
                refine wpAny_take (i := 20) (v := undef) rfl (by kernel_rfl) (by kernel_rfl) (by kernel_rfl) (fun _ _ _ h => h) (Or.inr ⟨by kernel_rfl, rfl⟩) ?_
                refine wpAny_take (i := 21) (v := undef) rfl (by kernel_rfl) (by kernel_rfl) (by kernel_rfl) (fun _ _ _ h => h) (Or.inr ⟨by kernel_rfl, rfl⟩) ?_
                refine wpAny_take (i := 22) (v := .bool true) rfl (by kernel_rfl) (by kernel_rfl) (by kernel_rfl) (fun _ _ _ h => h) (Or.inl ⟨by kernel_rfl, fun w => by go_simp⟩) ?_
                refine wpAny_done (by kernel_rfl) ?_ _
                go_simp
                go_wp2_with fail
                go_ret
                exact ⟨rfl, HF.out.trans f3⟩
              · go_simp
                refine hK _ _ ?_
                clear hK K
                refine wpAny_ready (rs := [5]) (by kernel_rfl) (by simp) ?_
                refine AllReady.cons rfl (fun K hK => ?_) AllReady.nil
                go_simp
                refine hK _ _ ?_
                clear hK K
                refine wpAny_take (i := 11) (v := .bool true) rfl (by kernel_rfl) (by kernel_rfl) (by kernel_rfl) (fun _ _ _ h => h) (Or.inl ⟨by kernel_rfl, fun w => by go_simp⟩) ?_
                refine wpAny_take (i := 12) (v := .bool true) rfl (by kernel_rfl) (by kernel_rfl) (by kernel_rfl) (fun _ _ _ h => h) (Or.inl ⟨by kernel_rfl, fun w => by go_simp⟩) ?_
                refine wpAny_take (i := 13) (v := .bool true) rfl (by kernel_rfl) (by kernel_rfl) (by kernel_rfl) (fun _ _ _ h => h) (Or.inl ⟨by kernel_rfl, fun w => by go_simp⟩) ?_
                refine wpAny_take (i := 14) (v := undef) rfl (by kernel_rfl) (by kernel_rfl) (by kernel_rfl) (fun _ _ _ h => h) (Or.inr ⟨by kernel_rfl, rfl⟩) ?_
                refine wpAny_take (i := 15) (v := undef) rfl (by kernel_rfl) (by kernel_rfl) (by kernel_rfl) (fun _ _ _ h => h) (Or.inr ⟨by kernel_rfl, rfl⟩) ?_
                refine wpAny_take (i := 16) (v := undef) rfl (by kernel_rfl) (by kernel_rfl) (by kernel_rfl) (fun _ _ _ h => h) (Or.inr ⟨by kernel_rfl, rfl⟩) ?_
                refine wpAny_take (i := 17) (v := undef) rfl (by kernel_rfl) (by kernel_rfl) (by kernel_rfl) (fun _ _ _ h => h) (Or.inr ⟨by kernel_rfl, rfl⟩) ?_
                refine wpAny_take (i := 18) (v := undef) rfl (by kernel_rfl) (by kernel_rfl) (by kernel_rfl) (fun _ _ _ h => h) (Or.inr ⟨by kernel_rfl, rfl⟩) ?_
                refine wpAny_take (i := 19) (v := undef) rfl (by kernel_rfl) (by kernel_rfl) (by kernel_rfl) (fun _ _ _ h => h) (Or.inr ⟨by kernel_rfl, rfl⟩) ?_
                refine wpAny_take (i := 20) (v := undef) rfl (by kernel_rfl) (by kernel_rfl) (by kernel_rfl) (fun _ _ _ h => h) (Or.inr ⟨by kernel_rfl, rfl⟩) ?_
                refine wpAny_take (i := 21) (v := undef) rfl (by kernel_rfl) (by kernel_rfl) (by kernel_rfl) (fun _ _ _ h => h) (Or.inr ⟨by kernel_rfl, rfl⟩) ?_
                refine wpAny_take (i := 22) (v := .bool true) rfl (by kernel_rfl) (by kernel_rfl) (by kernel_rfl) (fun _ _ _ h => h) (Or.inl ⟨by kernel_rfl, fun w => by go_simp⟩) ?_
                refine wpAny_done (by kernel_rfl) ?_ _
                go_simp
                go_wp2_with fail
                go_ret
                exact ⟨rfl, HF.out.trans f3⟩
        · have hki : ¬ (k : Int) < n := by omega
          obtain rfl : r = true := by
           rw [← hok.out, List.drop_of_length_le (by rw [List.length_map, HLA.out]; omega)]
           rfl
          go_wp2_with fail
          go_ret
          exact ⟨rfl, (FA.out.trans F1.out).trans hfr.out⟩
   · have hn4 : (4096 : Int) < n := by omega
     have hn5 : 4096 < n := by omega
     rw [show decide (n ≤ 4096) = false from decide_eq_false h4, Bool.false_and]
     clear hcm ha hS hz hla
     go_enter Tryz.func46, Tryz.ntmps46
     go_wp2_with fail
     go_ret
     exact ⟨rfl, FA.out⟩
end Go.Proofs.YtncecbgpkoihpaaGreatDoor
