/- token: a tag's values, read. -/
import Derived.Test.YtalbehjjgdedcaaGreatDoorTokE
namespace Go.Proofs.YtalbehjjgdedcaaGreatDoor
open Go.RowKit Go.Lib
attribute [local go_sem ↓] Go.wp_at_zero Go.wp_at_succ

/-- an attribute, as it lies in cells -/
def pairC : Cod (ByteArray × ByteArray) where
  size := 2
  cells x := [.string x.1, .string x.2]
  len _ := rfl
  one x u hu := by simp only [List.mem_cons, List.not_mem_nil, or_false] at hu; rcases hu with rfl | rfl <;> rfl
  pos := by decide
def toPair (x : List UInt8 × List UInt8) : ByteArray × ByteArray := (⟨x.1.toArray⟩, ⟨x.2.toArray⟩)
theorem el_attr : El Tryz.prog 31 38 2 32 := El.mk (.agg #[.string ⟨#[]⟩, .string ⟨#[]⟩]) Tryz.underlying31 (by kernel_rfl) rfl
theorem rd_pair (w : World) (x y : ByteArray) (E : TypeId) : Rd pairC (w.alloc (.cells #[.string x, .string y] E)) (fun k => k = w.heap.size) (.slice (some ⟨w.heap.size, 0, none⟩) 1 1) [(x, y)] := by
  refine ⟨_, 1, rfl, Nat.le_refl _, by simp [maxLen], fun h => (by cases h), fun _ => ⟨w.heap.size, 0, rfl, rfl, fun j u hu => ?_⟩⟩
  rw [cell_of_row _ _ _ _ _ _ (heap_alloc_new w _)]
  simpa [Cod.flat, pairC] using hu

/-- what is read already, and what comes -/
def readC (pre : List (List UInt8 × List UInt8)) : List (List UInt8 × List UInt8) ⊕ (Nat × Int) → List (List UInt8 × List UInt8) ⊕ (Nat × Int)
  | .inr x => .inr x
  | .inl r => .inl (pre ++ r)
theorem readC_cons {a : RawA} {l : List RawA} {pre : List (List UInt8 × List UInt8)} (h : (decodeR a.value).2.2 = 0) : readC pre (readP (a :: l)) = readC (pre ++ [(a.name, (decodeR a.value).1)]) (readP l) := by
  rw [readP, if_neg (by simpa using h)]
  cases readP l with
  | inr x => rfl
  | inl r => simp [readC]
theorem readC_err {a : RawA} {l : List RawA} {pre : List (List UInt8 × List UInt8)} (h : (decodeR a.value).2.2 ≠ 0) : readC pre (readP (a :: l)) = .inr (a.off + (decodeR a.value).2.1, (decodeR a.value).2.2) := by
  rw [readP, if_pos h]
  rfl

/-- what read answers -/
def ReadPost (tb p : Nat) (kd : Int) (nm tx : ByteArray) (ta : Int) (R : List (List UInt8 × List UInt8) ⊕ (Nat × Int)) (w : World) (e : Ending) (w' : World) : Prop :=
  Fr (fun k => k = tb) w w' ∧ match R with
  | .inr (off, er) => e = .returned (.tuple #[.int .i64 ((p + off : Nat) : Int), .int .i64 er]) ∧ ∃ A m c, TokAt w' tb kd nm (.slice A m c) tx ta
  | .inl vs => e = .returned (if 32 < vs.length then .tuple #[.int .i64 ta, .int .i64 3] else .tuple #[.int .i64 0, .int .i64 0]) ∧
      ∃ A c oa, TokAt w' tb kd nm (.slice A vs.length c) tx ta ∧ Own pairC w' 38 (.slice A vs.length c) oa (vs.map toPair) ∧ (∀ k, oa = some k → w.heap.size ≤ k ∧ k < w'.heap.size)

/-- where read's round stands -/
structure ReadJ (tb p : Nat) (kd : Int) (nm tx : ByteArray) (ta : Int) (ats : List RawA) (R : List (List UInt8 × List UInt8) ⊕ (Nat × Int)) (w w' : World) (k : Nat) (av : Value) (oa : Option Nat) (pre : List (List UInt8 × List UInt8)) : Prop where
  tok : TokAt w' tb kd nm av tx ta
  own : Own pairC w' 38 av oa (pre.map toPair)
  new : ∀ x, oa = some x → w.heap.size ≤ x ∧ x < w'.heap.size
  fr : Fr (fun x => x = tb) w w'
  res : readC pre (readP (ats.drop k)) = R
  len : pre.length = k

set_option maxRecDepth 100000 in
set_option maxHeartbeats 8000000 in
theorem read_any (tb p : Nat) (kd : Int) (nm tx : ByteArray) (ta : Int) (v : Value) (ats : List RawA) (S : Nat → Prop) (w : World) (ht : TokAt w tb kd nm (.slice none 0 0) tx ta) (hr : Rd rawC w S v (ats.map (rawV p)))
    (hS : ∀ k, S k → k < w.heap.size ∧ ¬ k = tb) (hst : St w) (hfree : Free tb) (hlen : ats.length ≤ 1000000) (hval : ∀ a ∈ ats, a.value.length ≤ 100000 ∧ p + a.off ≤ 1000000) :
    Calls Tryz.prog 75 #[.pointer (some ⟨tb, 0, none⟩), v] w fun e w' => ReadPost tb p kd nm tx ta (readP ats) w e w' := by
  have H := hide hr
  have HS := hide hS
  have HV := hide hval
  have HST := hide (fun (W : World) (f : Fr (fun x => x = tb) w W) => hst.fr f (fun k hk => by rw [hk]; exact hfree))
  obtain ⟨A, cap, rfl, hlc, hcm, -⟩ := hr
  rw [List.length_map] at hlc
  have htb := hide ht.lt
  obtain ⟨R, hR⟩ : ∃ R, readP ats = R := ⟨_, rfl⟩
  rw [hR]
  have HJ0 := hide (show ReadJ tb p kd nm tx ta ats R w w 0 (.slice none 0 0) none [] from ⟨ht, Own.nil_ _ _ _ _, fun k hk => (by cases hk), Fr.refl _ _, by rw [List.drop_zero, ← hR]; cases readP ats <;> rfl, rfl⟩)
  clear hR ht hval hS hcm hst hfree
  simp only [List.length_map]
  go_enter Tryz.func75, Tryz.ntmps75
  go_wp2_with fail
  go_loopw [13] (fun i wr => ∃ (k : Nat) (av : Value) (oa : Option Nat) (pre : List (List UInt8 × List UInt8)), k ≤ ats.length ∧ i = .int .i64 k ∧ Hid (ReadJ tb p kd nm tx ta ats R w wr k av oa pre)) (fun i _ => ats.length - (Go.RowKit.intOf i).toNat)
  case atStart => exact ⟨0, _, _, _, Nat.zero_le _, rfl, HJ0⟩
  case round =>
    obtain ⟨k, av, oa, pre, hk, rfl, hJ⟩ := hrel
    by_cases hlt : k < ats.length
    · obtain ⟨g, off, cap', hv, -, -, hg, hc⟩ := H.out.at_ (i := k) (by rw [List.length_map]; exact hlt)
      simp only [List.length_map, Value.slice.injEq, true_and] at hv
      obtain ⟨rfl, rfl⟩ := hv
      obtain ⟨hgw, hgt⟩ := HS.out g hg
      have hfr := hJ.out.fr
      have q0 := (hfr.cell (p := ⟨g, off + (k * 3 + 0), none⟩) hgw hgt).trans (hc 0 (by decide))
      have q1 := (hfr.cell (p := ⟨g, off + (k * 3 + 1), none⟩) hgw hgt).trans (hc 1 (by decide))
      have q2 := (hfr.cell (p := ⟨g, off + (k * 3 + 2), none⟩) hgw hgt).trans (hc 2 (by decide))
      rw [List.getElem_map] at q0 q1 q2
      have hmem : ats[k] ∈ ats := List.getElem_mem hlt
      obtain ⟨v1, v2⟩ := HV.out _ hmem
      have hdrop : ats.drop k = ats[k] :: ats.drop (k + 1) := List.drop_eq_getElem_cons hlt
      have hres := hJ.out.res
      rw [hdrop] at hres
      generalize ats[k] = a at *
      obtain ⟨an, hav, ao⟩ := a
      simp only [rawV] at q0 q1 q2 v1 v2
      obtain ⟨xn, hxn⟩ : ∃ xn : ByteArray, (⟨an.toArray⟩ : ByteArray) = xn := ⟨_, rfl⟩
      obtain ⟨xv, hxv⟩ : ∃ xv : ByteArray, (⟨hav.toArray⟩ : ByteArray) = xv := ⟨_, rfl⟩
      have hxvl : xv.data.toList = hav := by rw [← hxv]
      have hxvz : xv.size ≤ 100000 := by rw [← hxv, mk_size]; exact v1
      rw [hxn] at q0
      rw [hxv] at q1
      simp only [rawC, Nat.add_zero, List.getElem?_cons_zero, List.getElem?_cons_succ, ← Nat.add_assoc] at q0 q1 q2
      have hd := fun W hW => decode_any xv W hW hxvz
      rw [hxvl] at hd
      unfold wp3 at hd
      have hplace := decodeR_place hav
      have hgr : g < wr.heap.size := Nat.lt_of_lt_of_le hgw hfr.size
      have htbr : tb < wr.heap.size := Nat.lt_of_lt_of_le htb.out hfr.size
      have HRES := hide hres
      have hBX := fun (W : World) (f : Fr (fun _ => False) (wr.alloc (.cells #[.string xn, .string xv, .int .i64 ((p + ao : Nat) : Int)] 171)) W) => show W.heap[wr.heap.size]? = some (.cells #[.string xn, .string xv, .int .i64 ((p + ao : Nat) : Int)] 171 (0, 0)) from by
        rw [f.block _ (by simp) (fun h => h)]; exact heap_alloc_new wr _
      have HBX := hide hBX
      obtain ⟨dt, hdt⟩ : ∃ dt : ByteArray, (⟨(decodeR hav).1.toArray⟩ : ByteArray) = dt := ⟨_, rfl⟩
      rw [hdt] at hd
      clear hc hmem hdrop hres hBX hxvz
      by_cases he : (decodeR hav).2.2 = 0
      · have hres := HRES.out
        rw [readC_cons (by exact he)] at hres
        rw [he] at hd
        have HRES2 := hide hres
        have HD := hide hd
        have hpair : toPair (an, (decodeR hav).1) = (xn, dt) := by unfold toPair; rw [hxn, hdt]
        have HPAIR := hide hpair
        generalize (decodeR hav).2.1 = dk at *
        generalize (decodeR hav).1 = dl at *
        clear he hres HRES hxn hxv hxvl hd hdt hpair
        go_wp2_with (go_at_call 77; refine (HD.out _ (HST.out _ (hfr.trans (Fr.alloc (Fr.refl _ _) _)))).mono ?_; rintro e w2 ⟨rfl, f2⟩; have r2 := HBX.out _ f2; have t2 := (hJ.out.tok.fr (Fr.alloc (Fr.refl (fun _ => False) wr) _) (fun h => h)).fr f2 (fun h => h); have c0 := cell_of_row w2 wr.heap.size 0 _ _ _ r2; have c2 := cell_of_row w2 wr.heap.size 2 _ _ _ r2; simp at c0 c2; obtain ⟨z0, z1, z2, z3, z4, z5⟩ := t2.facts)
        have own2 := (hJ.out.own.fr (Fr.alloc (Fr.refl (fun _ => False) wr) _) (fun _ _ h => h)).fr f2 (fun _ _ h => h)
        have OWN2 := hide own2
        have T2 := hide t2
        have HLEN := hide (show pre.length ≤ 1000000 by rw [hJ.out.len]; omega)
        have nb : ¬ oa = some tb := fun e => by have := (hJ.out.new tb e).1; have := htb.out; omega
        have hsz2 : wr.heap.size + 1 ≤ w2.heap.size := by have := f2.size; simpa using this
        have ltb : tb < w2.heap.size := by omega
        have lbx : wr.heap.size < w2.heap.size := by omega
        clear own2 t2
        go_region_law ((refine step_append_Own (by rfl) (by rfl) el_attr (by rfl) (by rfl) (OWN2.out.fr (Fr.alloc (Fr.drew (Fr.refl (fun _ => False) _)) _) (fun _ _ h => h)) (rd_pair _ _ _ _) (by have := HLEN.out; (try simp); omega) ?_; intro A' cap' w3 o' hown hfr' hnew; have hfr1 := (Fr.alloc (Fr.drew (Fr.refl (fun k => oa = some k) w2)) _).trans hfr'; have x1 := (hfr1.cell (p := ⟨tb, 2, none⟩) ltb nb).trans z2; have fz := (hfr1.frozen (p := ⟨tb, 2, none⟩) ltb nb).trans (z5 2)))
        all_goals
          go_wp2
          go_roundw
          case rel =>
            have s1 := hfr1.size
            have s2 := hfr.size
            have hA := (Fr.alloc (Fr.drew (Fr.refl (fun _ => False) w2)) (.cells #[.string xn, .string dt] 38)).size
            have hown2 : Own pairC w3 38 (.slice A' (pre.length + 1) cap') o' (pre.map toPair ++ [(xn, dt)]) := by simpa using hown
            have hnew2 : ∀ x, o' = some x → oa = some x ∨ (w2.heap.size ≤ x ∧ x < w3.heap.size) := fun x hx => (hnew x hx).imp id (fun h => ⟨Nat.le_trans hA h.1, h.2⟩)
            have s3 := (Fr.set_b w3 tb 2 (.slice A' (pre.length + 1) cap')).size
            refine ⟨k + 1, .slice A' (pre.length + 1) cap', o', pre ++ [(an, dl)], by omega, by go_num, hide ⟨(T2.out.fr hfr1 nb).attrs_ _, ?_, fun x hx => ?_, ?_, HRES2.out, by rw [List.length_append, hJ.out.len]; rfl⟩⟩
            · have h1 := hown2.fr (Fr.set_b w3 tb 2 (.slice A' (pre.length + 1) cap')) (fun x hx e => by
                subst e
                rcases hnew2 _ hx with h | h
                · exact nb h
                · have := h.1; omega)
              rw [List.map_append, List.map_cons, List.map_nil, HPAIR.out]
              exact h1
            · rcases hnew2 x hx with h | h
              · have := hJ.out.new x h
                exact ⟨this.1, by omega⟩
              · exact ⟨by omega, by omega⟩
            · have g1 : Fr (fun x => x = tb) w w3 := ((hfr.trans (Fr.alloc (Fr.refl _ _) _)).trans f2.into).then_ hfr1 (fun x h1 h2 => by have := (hJ.out.new x h2).1; omega)
              exact g1.trans (Fr.set_b w3 tb 2 _)
          case measure => simp [Go.RowKit.intOf]; omega
      · have hres := HRES.out
        rw [readC_err (by exact he)] at hres
        have heb : ((decodeR hav).2.2 != 0) = true := by simpa using he
        have HD := hide hd
        have HR := hide hres
        have hpl : (decodeR hav).2.1 ≤ 100000 := by omega
        clear hres HRES hxn hxv hxvl hd hdt he
        simp only at HR
        generalize (decodeR hav).2.1 = dk at *
        generalize (decodeR hav).2.2 = de at *
        generalize (decodeR hav).1 = dl at *
        go_wp2_with (go_at_call 77; refine (HD.out _ (HST.out _ (hfr.trans (Fr.alloc (Fr.refl _ _) _)))).mono ?_; rintro e w2 ⟨rfl, f2⟩; have r2 := HBX.out _ f2; have t2 := (hJ.out.tok.fr (Fr.alloc (Fr.refl (fun _ => False) wr) _) (fun h => h)).fr f2 (fun h => h); have c0 := cell_of_row w2 wr.heap.size 0 _ _ _ r2; have c2 := cell_of_row w2 wr.heap.size 2 _ _ _ r2; simp at c0 c2; obtain ⟨z0, z1, z2, z3, z4, z5⟩ := t2.facts)
        go_ret2
        refine ⟨(hfr.trans (Fr.alloc (Fr.refl _ _) _)).trans f2.into, ?_⟩
        rw [← HR.out]
        obtain ⟨A2, c2', rfl, -, -⟩ := hJ.out.own.form
        refine ⟨?_, _, _, _, t2⟩
        show Ending.returned (.tuple #[.int .i64 _, .int .i64 _]) = _
        simp only [Ending.returned.injEq, Value.tuple.injEq]
        congr 2
        simp only [Int.natCast_add]
        congr 1
        omega
    · obtain rfl : k = ats.length := by omega
      have hres := hJ.out.res
      rw [List.drop_of_length_le (Nat.le_refl _)] at hres
      have hres2 : R = .inl pre := by rw [← hres]; simp [readC, readP]
      have HR := hide hres2
      have hfr := hJ.out.fr
      have t2 := hJ.out.tok
      have hlen2 := hide hJ.out.len
      obtain ⟨z0, z1, z2, z3, z4, z5⟩ := t2.facts
      clear hres hres2
      by_cases h32 : 32 < ats.length
      · have hi : (32 : Int) < ats.length := by omega
        clear hlt
        go_wp2_with fail
        go_ret2
        refine ⟨hfr, ?_⟩
        rw [HR.out]
        obtain ⟨A2, c2', hav2, -, -⟩ := hJ.out.own.form
        rw [List.length_map] at hav2
        subst hav2
        refine ⟨?_, _, _, oa, t2, hJ.out.own, hJ.out.new⟩
        rw [if_pos (by rw [hlen2.out]; exact h32)]
        rfl
      · have hi : ¬ (32 : Int) < ats.length := by omega
        have hi2 : (ats.length : Int) ≤ 32 := by omega
        clear hlt
        go_wp2_with fail
        go_ret2
        refine ⟨hfr, ?_⟩
        rw [HR.out]
        obtain ⟨A2, c2', hav2, -, -⟩ := hJ.out.own.form
        rw [List.length_map] at hav2
        subst hav2
        refine ⟨?_, _, _, oa, t2, hJ.out.own, hJ.out.new⟩
        rw [if_neg (by rw [hlen2.out]; exact h32)]
        rfl
end Go.Proofs.YtalbehjjgdedcaaGreatDoor
