/- token: raws and tokens in memory; tag. -/
import Derived.Test.YtalbehjjgdedcaaGreatDoorTokC
import Derived.Test.YtalbehjjgdedcaaGreatDoorTokD
import Derived.WalkMore
import Derived.ScopeJumps
namespace Go.Proofs.YtalbehjjgdedcaaGreatDoor
open Go.RowKit Go.Lib
attribute [local go_sem ↓] Go.wp_at_zero Go.wp_at_succ

/-- an attribute that is not read yet, as it lies in cells -/
structure RawV where
  name : ByteArray
  value : ByteArray
  at_ : Int
def rawC : Cod RawV where
  size := 3
  cells x := [.string x.name, .string x.value, .int .i64 x.at_]
  len _ := rfl
  one x u hu := by simp only [List.mem_cons, List.not_mem_nil, or_false] at hu; rcases hu with rfl | rfl | rfl <;> rfl
  pos := by decide
def rawV (p : Nat) (a : RawA) : RawV := ⟨⟨a.name.toArray⟩, ⟨a.value.toArray⟩, ((p + a.off : Nat) : Int)⟩
theorem el_raw : El Tryz.prog 141 171 3 40 := El.mk (.agg #[.string ⟨#[]⟩, .string ⟨#[]⟩, .int .i64 0]) Tryz.underlying141 (by kernel_rfl) rfl
theorem rd_raw (w : World) (x : RawV) (E : TypeId) (m : Nat) (h : 1 ≤ m) (hm : m ≤ maxLen) : Rd rawC (w.alloc (.cells #[.string x.name, .string x.value, .int .i64 x.at_] E)) (fun k => k = w.heap.size) (.slice (some ⟨w.heap.size, 0, none⟩) 1 m) [x] := by
  refine ⟨_, m, rfl, h, hm, fun h => (by cases h), fun _ => ⟨w.heap.size, 0, rfl, rfl, fun j u hu => ?_⟩⟩
  rw [cell_of_row _ _ _ _ _ _ (heap_alloc_new w _)]
  simpa [Cod.flat, rawC] using hu

/-- a token's box -/
structure TokAt (w : World) (tb : Nat) (kind : Int) (name : ByteArray) (av : Value) (text : ByteArray) (at_ : Int) : Prop where
  blk : w.heap[tb]? = some (.cells #[.int .u8 kind, .string name, av, .string text, .int .i64 at_] 33 (0, 0))
namespace TokAt
variable {w w' : World} {tb : Nat} {kind : Int} {name text : ByteArray} {av : Value} {at_ : Int}
theorem fr {fp : Nat → Prop} (h : TokAt w tb kind name av text at_) (f : Fr fp w w') (hb : ¬ fp tb) : TokAt w' tb kind name av text at_ := ⟨(f.block tb (Array.getElem?_eq_some_iff.1 h.blk).1 hb).trans h.blk⟩
theorem lt (h : TokAt w tb kind name av text at_) : tb < w.heap.size := (Array.getElem?_eq_some_iff.1 h.blk).1
theorem facts (h : TokAt w tb kind name av text at_) : w.cell? ⟨tb, 0, none⟩ = some (.int .u8 kind) ∧ w.cell? ⟨tb, 1, none⟩ = some (.string name) ∧ w.cell? ⟨tb, 2, none⟩ = some av ∧ w.cell? ⟨tb, 3, none⟩ = some (.string text) ∧ w.cell? ⟨tb, 4, none⟩ = some (.int .i64 at_) ∧ ∀ i, w.frozen? ⟨tb, i, none⟩ = false := by
  refine ⟨?_, ?_, ?_, ?_, ?_, fun i => frozen_of_row w tb i _ _ h.blk⟩
  · rw [cell_of_row w tb 0 _ _ _ h.blk]; rfl
  · rw [cell_of_row w tb 1 _ _ _ h.blk]; rfl
  · rw [cell_of_row w tb 2 _ _ _ h.blk]; rfl
  · rw [cell_of_row w tb 3 _ _ _ h.blk]; rfl
  · rw [cell_of_row w tb 4 _ _ _ h.blk]; rfl
theorem kind_ (h : TokAt w tb kind name av text at_) (k : Int) : TokAt (w.setCell ⟨tb, 0, none⟩ (.int .u8 k)) tb k name av text at_ := ⟨heap_setCell_same w tb 0 _ _ _ h.blk⟩
theorem name_ (h : TokAt w tb kind name av text at_) (s : ByteArray) : TokAt (w.setCell ⟨tb, 1, none⟩ (.string s)) tb kind s av text at_ := ⟨heap_setCell_same w tb 1 _ _ _ h.blk⟩
theorem attrs_ (h : TokAt w tb kind name av text at_) (v : Value) : TokAt (w.setCell ⟨tb, 2, none⟩ v) tb kind name v text at_ := ⟨heap_setCell_same w tb 2 _ _ _ h.blk⟩
theorem text_ (h : TokAt w tb kind name av text at_) (s : ByteArray) : TokAt (w.setCell ⟨tb, 3, none⟩ (.string s)) tb kind name av s at_ := ⟨heap_setCell_same w tb 3 _ _ _ h.blk⟩
theorem at__ (h : TokAt w tb kind name av text at_) (i : Int) : TokAt (w.setCell ⟨tb, 4, none⟩ (.int .i64 i)) tb kind name av text i := ⟨heap_setCell_same w tb 4 _ _ _ h.blk⟩
end TokAt

/-! the model of tag's round -/
theorem hasPrefix_two (l : List UInt8) (x y : UInt8) : hasPrefix l [x, y] = true ↔ l[0]? = some x ∧ l[1]? = some y := by
  match l with
  | [] => simp [hasPrefix, List.isPrefixOf]
  | [b] =>
    simp only [hasPrefix, List.isPrefixOf, Bool.and_false, List.getElem?_cons_zero, List.getElem?_cons_succ, List.getElem?_nil]
    simp
  | b :: c :: l =>
    simp only [hasPrefix, List.isPrefixOf, Bool.and_true, Bool.and_eq_true, beq_iff_eq, List.getElem?_cons_zero, List.getElem?_cons_succ, Option.some.injEq]
    exact ⟨fun h => ⟨h.1.symm, h.2.symm⟩, fun h => ⟨h.1.symm, h.2.symm⟩⟩
/-- does an attribute stand behind blanks? -/
def goes (l : List UInt8) : Prop := 0 < nB l ∧ ∃ c, (l.drop (nB l))[0]? = some c ∧ c ≠ 47 ∧ c ≠ 62
theorem attrsS_goes {l : List UInt8} (h : goes l) (at_ : Nat) (acc : List RawA) : attrsS l at_ acc = match attrP (l.drop (nB l)) with
    | none => none
    | some (a, k) => attrsS (l.drop (nB l + k)) (at_ + nB l + k) (acc ++ [⟨a.name, a.value, at_ + nB l + a.off⟩]) := by
  obtain ⟨h1, c, hc, h2, h3⟩ := h
  rw [List.getElem?_drop, Nat.add_zero] at hc
  have hl := lt_of_get hc
  rw [attrsS_step, hc, if_neg (by simpa using h3), if_neg (by simp [h2]), if_neg (by omega)]
  rfl
theorem attrsS_ends {l : List UInt8} (h : ¬ goes l) (at_ : Nat) (acc : List RawA) : attrsS l at_ acc =
    if hasPrefix (l.drop (nB l)) [47, 62] = true then some (3, acc, at_ + nB l + 2) else if hasPrefix (l.drop (nB l)) [62] = true then some (1, acc, at_ + nB l + 1) else none := by
  rw [attrsS_step]
  have e1 := hasPrefix_one (l.drop (nB l)) 62
  have e2 := hasPrefix_two (l.drop (nB l)) 47 62
  rw [List.getElem?_drop, Nat.add_zero] at e1 e2
  rw [List.getElem?_drop] at e2
  by_cases c1 : l[nB l]? = some 62
  · rw [if_pos c1, if_neg (fun hh => by have := (e2.1 hh).1; rw [c1] at this; cases this), if_pos (e1.2 c1)]
  · rw [if_neg c1]
    by_cases c2 : l[nB l]? = some 47 ∧ l[nB l + 1]? = some 62
    · rw [if_pos c2, if_pos (e2.2 c2)]
    · rw [if_neg c2, if_neg (fun hh => c2 (e2.1 hh)), if_neg (fun hh => c1 (e1.1 hh))]
      by_cases c3 : nB l = 0 ∨ l.length ≤ nB l
      · rw [if_pos c3]
      · rw [if_neg c3]
        have hlt : nB l < l.length := by omega
        have hg : l[nB l]? = some l[nB l] := List.getElem?_eq_getElem hlt
        have h47 : l[nB l] = 47 := Classical.byContradiction fun hn => h ⟨by omega, l[nB l], by rw [List.getElem?_drop, Nat.add_zero]; exact hg, hn, fun e => c1 (by rw [hg, e])⟩
        cases ha : attrP (l.drop (nB l)) with
        | none => rfl
        | some x =>
          obtain ⟨q, r, hb0, _⟩ := attrP_iff.1 ha
          have : beginN (l.drop (nB l)) = 0 := by
            refine beginN_zero (fun k hk1 hk2 => splitN_bad (b := 47) (List.mem_of_getElem? (i := 0) ?_) (by decide) (by decide))
            rw [List.getElem?_take, if_pos hk1, List.getElem?_drop, Nat.add_zero, hg, h47]
          omega

/-- a scope that is left forward, to one label -/
theorem wp_scope_fwd {P : Program} {a : Act} {w : World} {Q : Exit → Act → World → Prop} {c rest : Code} (l : Nat) (hf : findLabel c l = some rest)
    (first : c.wp P (Exit.jump l (fun a w => rest.wp P (Exit.noGoto Q) a w) Q) a w) : (Code.scope c).wp P Q a w := by
  refine wp_scope_jumps l (fun a w => rest.wp P (Exit.noGoto Q) a w) (fun _ _ => 0) hf first ?_
  intro a w h
  refine Code.wp_mono ?_ h
  intro e a' w' hq
  cases e <;> first | exact hq | exact hq.elim

/-- what tag answers -/
def TagPost (b n tb : Nat) (l : List UInt8) (av : Value) (tx : ByteArray) (ta : Int) (w : World) (e : Ending) (w' : World) : Prop :=
  Fr (fun k => k = b ∨ k = tb) w w' ∧ match tagP l with
  | none => ∃ v r' k nm, e = .returned (.tuple #[v, .bool false]) ∧ CutAt w' b n r' ∧ TokAt w' tb k nm av tx ta
  | some (kind, name, ats, k) => ∃ v o, e = .returned (.tuple #[v, .bool true]) ∧ CutAt w' b n ⟨(l.drop k).toArray⟩ ∧ TokAt w' tb kind ⟨name.toArray⟩ av tx ta ∧
      Own rawC w' 171 v o (ats.map (rawV (n - l.length))) ∧ (∀ k, o = some k → w.heap.size ≤ k ∧ k < w'.heap.size)
theorem TagPost.no {b n tb : Nat} {k : Int} {l : List UInt8} {av v : Value} {tx r' nm : ByteArray} {ta : Int} {w w' : World} (h : tagP l = none) (hc : CutAt w' b n r') (ht : TokAt w' tb k nm av tx ta) (hf : Fr (fun k => k = b ∨ k = tb) w w') :
    TagPost b n tb l av tx ta w (.returned (.tuple #[v, .bool false])) w' := by
  refine ⟨hf, ?_⟩
  rw [h]
  exact ⟨v, r', k, nm, rfl, hc, ht⟩
theorem TagPost.yes {b n tb kind k : Nat} {l name : List UInt8} {ats : List RawA} {av v : Value} {o : Option Nat} {tx r' nm : ByteArray} {ta : Int} {w w' : World} (h : tagP l = some (kind, name, ats, k)) (hc : CutAt w' b n r') (hr : r' = ⟨(l.drop k).toArray⟩)
    (ht : TokAt w' tb (kind : Int) nm av tx ta) (hn : nm = ⟨name.toArray⟩) (hf : Fr (fun k => k = b ∨ k = tb) w w') (ho : Own rawC w' 171 v o (ats.map (rawV (n - l.length)))) (hfr : ∀ k, o = some k → w.heap.size ≤ k ∧ k < w'.heap.size) :
    TagPost b n tb l av tx ta w (.returned (.tuple #[v, .bool true])) w' := by
  refine ⟨hf, ?_⟩
  rw [h]
  subst hr hn
  exact ⟨v, o, rfl, hc, ht, ho, hfr⟩
theorem Fr.l {b tb : Nat} {w w' : World} (h : Fr (fun k => k = b) w w') : Fr (fun k => k = b ∨ k = tb) w w' := h.mono (fun _ h => .inl h)
theorem Fr.r {b tb : Nat} {w w' : World} (h : Fr (fun k => k = tb) w w') : Fr (fun k => k = b ∨ k = tb) w w' := h.mono (fun _ h => .inr h)

theorem two_sets {b n tb : Nat} {kd : Int} {r nm tx : ByteArray} {av : Value} {ta : Int} {w : World} (h : CutAt w b n r) (ht : TokAt w tb kd nm av tx ta) (hne : ¬ b = tb) (k : Int) (s : ByteArray) :
    ∃ W, (w.setCell ⟨tb, 0, none⟩ (.int .u8 k)).setCell ⟨tb, 1, none⟩ (.string s) = W ∧ CutAt W b n r ∧ TokAt W tb k s av tx ta ∧ Fr (fun k => k = tb) w W :=
  ⟨_, rfl, (h.fr (Fr.set_b w tb 0 (.int .u8 k)) hne).fr (Fr.set_b _ tb 1 (.string s)) hne, (ht.kind_ k).name_ s, (Fr.set_b w tb 0 (.int .u8 k)).trans (Fr.set_b _ tb 1 (.string s))⟩

set_option maxRecDepth 100000 in
set_option maxHeartbeats 4000000 in
/-- a Close -/
theorem tag_close (b n tb : Nat) (kd : Int) (r nm tx : ByteArray) (av : Value) (ta : Int) (w : World) (h : CutAt w b n r) (ht : TokAt w tb kd nm av tx ta) (hne : ¬ b = tb) (h0 : r.data.toList[0]? = some 60) (h47 : r.data.toList[1]? = some 47) :
    Calls Tryz.prog 74 #[.pointer (some ⟨b, 0, none⟩), .pointer (some ⟨tb, 0, none⟩)] w fun e w' => TagPost b n tb r.data.toList av tx ta w e w' := by
  have hne' : ¬ tb = b := fun e => hne e.symm
  have C0 := hide (h.fr (Fr.set_b w tb 0 (.int .u8 1)) hne)
  have T0 := hide (ht.kind_ 1)
  have F0 := hide ((Fr.set_b w tb 0 (.int .u8 1)).r (b := b))
  obtain ⟨x0, x1, x2, x3, x4, x5⟩ := ht.facts
  have hp : hasPrefix r.data.toList [60, 47] = true := (hasPrefix_two _ _ _).2 ⟨h0, h47⟩
  have e1 := fun W hW => eat_any b n r ⟨#[60, 47]⟩ W hW
  rw [show (⟨#[60, 47]⟩ : ByteArray).data.toList = [60, 47] from rfl, hp, show trimPrefix r.data.toList [60, 47] = r.data.toList.drop 2 by unfold trimPrefix; rw [if_pos hp]; rfl] at e1
  obtain ⟨r1, hr1⟩ : ∃ r1 : ByteArray, (⟨(r.data.toList.drop 2).toArray⟩ : ByteArray) = r1 := ⟨_, rfl⟩
  have h1l : r1.data.toList = r.data.toList.drop 2 := by rw [← hr1]
  rw [hr1] at e1
  have HE1 := hide e1
  have wd := fun W hW => word_any b n r1 W hW
  obtain ⟨nn, hnn⟩ : ∃ nn : ByteArray, (⟨(r1.data.toList.take (beginN r1.data.toList)).toArray⟩ : ByteArray) = nn := ⟨_, rfl⟩
  obtain ⟨r2, hr2⟩ : ∃ r2 : ByteArray, (⟨(r1.data.toList.drop (beginN r1.data.toList)).toArray⟩ : ByteArray) = r2 := ⟨_, rfl⟩
  rw [hnn, hr2] at wd
  have HW := hide wd
  have h2l : r2.data.toList = r.data.toList.drop (2 + beginN (r.data.toList.drop 2)) := by rw [← hr2, h1l, List.drop_drop]
  have sk := fun W hW => skip_any b n r2 W hW
  obtain ⟨s2, hs2⟩ : ∃ s2, decide (0 < nB r2.data.toList) = s2 := ⟨_, rfl⟩
  obtain ⟨r3, hr3⟩ : ∃ r3 : ByteArray, (⟨(r2.data.toList.drop (nB r2.data.toList)).toArray⟩ : ByteArray) = r3 := ⟨_, rfl⟩
  rw [hs2, hr3] at sk
  have HS := hide sk
  have h3l : r3.data.toList = r.data.toList.drop (2 + beginN (r.data.toList.drop 2) + nB (r.data.toList.drop (2 + beginN (r.data.toList.drop 2)))) := by rw [← hr3, h2l, List.drop_drop]
  have e2 := fun W hW => eat_any b n r3 ⟨#[62]⟩ W hW
  rw [show (⟨#[62]⟩ : ByteArray).data.toList = [62] from rfl] at e2
  have htag := tagP_eq r.data.toList
  rw [if_pos h47] at htag
  clear e1 hr1 wd hr2 sk hs2 hr3 h ht hp
  by_cases hb0 : beginN (r.data.toList.drop 2) = 0
  · have hnn0 : nn = ⟨#[]⟩ := by rw [← hnn, h1l, hb0]; rfl
    subst hnn0
    rw [if_pos (.inl hb0)] at htag
    have HT := hide htag
    clear htag hb0 hnn h1l h2l h3l e2 h0 h47
    go_enter Tryz.func74, Tryz.ntmps74
    go_wp2
    refine wp_scope_fwd 0 rfl ?_
    go_wp2_with (first
      | (go_at_call 108; refine (HE1.out _ C0.out).mono ?_; rintro e w1 ⟨rfl, c1, f1⟩)
      | (go_at_call 109; refine (HW.out _ c1).mono ?_; rintro e w2 ⟨rfl, c2, f2⟩; have t2 := (T0.out.fr f1 hne').fr f2 hne'; obtain ⟨y0, y1, y2, y3, y4, y5⟩ := t2.facts))
    obtain ⟨W3, hW3, c3, t3, g3⟩ := two_sets c2 t2 hne 2 ⟨#[]⟩
    rw [hW3]
    have T3 := hide t3
    have C3 := hide c3
    have F3 := hide (((F0.out.trans f1.l).trans f2.l).trans g3.r)
    clear hW3 c3 t3 g3
    go_step3
    refine ⟨rfl, ?_⟩
    go_wp2_with (go_at_call 110; refine (HS.out _ C3.out).mono ?_; rintro e w4 ⟨rfl, c4, f4⟩; have t4 := T3.out.fr f4 hne'; obtain ⟨z0, z1, z2, z3, z4, z5⟩ := t4.facts)
    rw [Exit.noGoto_ret]
    go_ret2
    exact TagPost.no HT.out c4 t4 (F3.out.trans f4.l)
  · have hnn1 : 0 < nn.size := by
      have hbl := beginN_le (r.data.toList.drop 2)
      rw [← hnn, mk_size, h1l, List.length_take]; omega
    obtain ⟨jE, jE2⟩ := ne_nil_ hnn1
    have hg : hasPrefix r3.data.toList [62] = true ↔ r.data.toList[2 + beginN (r.data.toList.drop 2) + nB (r.data.toList.drop (2 + beginN (r.data.toList.drop 2)))]? = some 62 := by
      rw [hasPrefix_one, h3l, List.getElem?_drop, Nat.add_zero]
    obtain ⟨r4, hr4⟩ : ∃ r4 : ByteArray, (⟨(trimPrefix r3.data.toList [62]).toArray⟩ : ByteArray) = r4 := ⟨_, rfl⟩
    rw [hr4] at e2
    cases hx : hasPrefix r3.data.toList [62] with
    | false =>
      rw [hx] at e2 hg
      rw [if_pos (.inr (fun e => by have := hg.2 e; cases this))] at htag
      have HT := hide htag
      have HE2 := hide e2
      clear htag hb0 hnn h1l h2l h3l e2 h0 h47 hnn1 hg hr4 hx
      go_enter Tryz.func74, Tryz.ntmps74
      go_wp2
      refine wp_scope_fwd 0 rfl ?_
      go_wp2_with (first
        | (go_at_call 108; refine (HE1.out _ C0.out).mono ?_; rintro e w1 ⟨rfl, c1, f1⟩)
        | (go_at_call 109; refine (HW.out _ c1).mono ?_; rintro e w2 ⟨rfl, c2, f2⟩; have t2 := (T0.out.fr f1 hne').fr f2 hne'; obtain ⟨y0, y1, y2, y3, y4, y5⟩ := t2.facts))
      obtain ⟨W3, hW3, c3, t3, g3⟩ := two_sets c2 t2 hne 2 nn
      rw [hW3]
      have T3 := hide t3
      have C3 := hide c3
      have F3 := hide (((F0.out.trans f1.l).trans f2.l).trans g3.r)
      clear hW3 c3 t3 g3
      go_step3
      refine ⟨rfl, ?_⟩
      go_wp2_with (first
        | (go_at_call 110; refine (HS.out _ C3.out).mono ?_; rintro e w4 ⟨rfl, c4, f4⟩; have t4 := T3.out.fr f4 hne'; obtain ⟨z0, z1, z2, z3, z4, z5⟩ := t4.facts)
        | (go_at_call 108; refine (HE2.out _ c4).mono ?_; rintro e w5 ⟨rfl, c5, f5⟩))
      rw [Exit.noGoto_ret]
      go_ret2
      exact TagPost.no HT.out c5 (t4.fr f5 hne') ((F3.out.trans f4.l).trans f5.l)
    | true =>
      have hr5 : r4 = ⟨(r.data.toList.drop (2 + beginN (r.data.toList.drop 2) + nB (r.data.toList.drop (2 + beginN (r.data.toList.drop 2))) + 1)).toArray⟩ := by
        rw [← hr4]
        unfold trimPrefix
        rw [if_pos hx, h3l, List.drop_drop]
        rfl
      rw [if_neg (by rintro (e | e); exact hb0 e; exact e (hg.1 hx))] at htag
      rw [hx] at e2
      have HT := hide htag
      have HE2 := hide e2
      have HR := hide hr5
      have HN := hide (show nn = ⟨((r.data.toList.drop 2).take (beginN (r.data.toList.drop 2))).toArray⟩ by rw [← hnn, h1l])
      clear htag hb0 hnn h1l h2l h3l e2 h0 h47 hnn1 hg hr4 hx hr5
      go_enter Tryz.func74, Tryz.ntmps74
      go_wp2
      refine wp_scope_fwd 0 rfl ?_
      go_wp2_with (first
        | (go_at_call 108; refine (HE1.out _ C0.out).mono ?_; rintro e w1 ⟨rfl, c1, f1⟩)
        | (go_at_call 109; refine (HW.out _ c1).mono ?_; rintro e w2 ⟨rfl, c2, f2⟩; have t2 := (T0.out.fr f1 hne').fr f2 hne'; obtain ⟨y0, y1, y2, y3, y4, y5⟩ := t2.facts))
      obtain ⟨W3, hW3, c3, t3, g3⟩ := two_sets c2 t2 hne 2 nn
      rw [hW3]
      have T3 := hide t3
      have C3 := hide c3
      have F3 := hide (((F0.out.trans f1.l).trans f2.l).trans g3.r)
      clear hW3 c3 t3 g3
      go_step3
      refine ⟨rfl, ?_⟩
      go_wp2_with (first
        | (go_at_call 110; refine (HS.out _ C3.out).mono ?_; rintro e w4 ⟨rfl, c4, f4⟩; have t4 := T3.out.fr f4 hne'; obtain ⟨z0, z1, z2, z3, z4, z5⟩ := t4.facts)
        | (go_at_call 108; refine (HE2.out _ c4).mono ?_; rintro e w5 ⟨rfl, c5, f5⟩))
      rw [Exit.noGoto_ret]
      go_ret2
      exact TagPost.yes HT.out c5 HR.out (t4.fr f5 hne') HN.out ((F3.out.trans f4.l).trans f5.l) (Own.nil_ _ _ _ _) (fun k hk => by cases hk)
end Go.Proofs.YtalbehjjgdedcaaGreatDoor
