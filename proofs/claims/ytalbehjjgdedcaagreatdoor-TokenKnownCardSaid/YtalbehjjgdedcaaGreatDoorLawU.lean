/- token: tags and texts, written plainly, one behind the other, are cut as they were; the argument, opened. -/
import Derived.Test.YtalbehjjgdedcaaGreatDoorLawX
import Derived.Test.YtalbehjjgdedcaaGreatDoorLawD
import Derived.Test.YtalbehjjgdedcaaGreatDoorLawC
import Derived.Test.YtalbehjjgdedcaaGreatDoorTokMz
namespace Go.Proofs.YtalbehjjgdedcaaGreatDoor
open Go.RowKit Go.Lib
attribute [local go_sem ↓] Go.wp_at_zero Go.wp_at_succ

/-- a part, as it lies in cells -/
structure PartV where
  kind : Int
  name : ByteArray
  A : Option Addr
  m : Nat
  c : Nat
  text : ByteArray
  rm : Bool
def partC : Cod PartV where
  size := 5
  cells x := [.int .i64 x.kind, .string x.name, .slice x.A x.m x.c, .string x.text, .bool x.rm]
  len _ := rfl
  one x u hu := by simp only [List.mem_cons, List.not_mem_nil, or_false] at hu; rcases hu with rfl | rfl | rfl | rfl | rfl <;> rfl
  pos := by decide
/-- a part in memory: its cells, its attributes -/
structure PartX where
  p : PartV
  ats : List (ByteArray × ByteArray)
def PartX.model (x : PartX) : PartM := partM x.p.kind x.p.name x.ats x.p.text x.p.rm
def PartOk (w : World) (S : Nat → Prop) (x : PartX) : Prop :=
  Rd pairC w S (.slice x.p.A x.p.m x.p.c) x.ats ∧ x.p.name.size ≤ 9223372036854775807 ∧ x.p.text.size ≤ 9223372036854775807 ∧ ∀ q ∈ x.ats, q.1.size ≤ 9223372036854775807 ∧ q.2.size ≤ 9223372036854775807

theorem written_any (w : World) (S : Nat → Prop) (x : PartX) (h : PartOk w S x) (hS : ∀ k, S k → k < w.heap.size) (ht : x.p.text.size ≤ 40) (h5 : x.p.m ≤ 5) (hv : ∀ q ∈ x.ats, q.2.size ≤ 40) :
    Calls Tryz.prog 17 #[.agg #[.int .i64 x.p.kind, .string x.p.name, .slice x.p.A x.p.m x.p.c, .string x.p.text, .bool x.p.rm]] w (WrittenPost x.model w) := by
  obtain ⟨h1, h2, h3, h4⟩ := h
  by_cases hk : x.p.kind.tmod 4 = 0
  · exact written_text_any w _ _ _ _ _ _ _ x.ats hk ht
  · exact written_tag_any w _ _ _ _ _ _ _ x.ats S h1 hS _ rfl hk h5 h2 (fun q hq => ⟨hv q hq, (h4 q hq).1⟩)

theorem putP_none {p : PartM} {l : List PartM} {text : Bool} {a : Nat} (h : writtenP p = none) : putP (p :: l) text a = putP l text a := by rw [putP, h]
theorem putP_skip {p : PartM} {l : List PartM} {text : Bool} {a : Nat} {t : List UInt8} {x : Tok} (h : writtenP p = some (t, x)) (hs : x.kind = 4 ∧ text = true ∧ p.remark = false) : putP (p :: l) text a = putP l text a := by
  rw [putP, h]
  simp only
  rw [if_pos hs]
theorem putP_step {p : PartM} {l : List PartM} {text : Bool} {a : Nat} {t : List UInt8} {x : Tok} (h : writtenP p = some (t, x)) (hs : ¬ (x.kind = 4 ∧ text = true ∧ p.remark = false)) :
    putP (p :: l) text a = ((if p.remark = true then remB else []) ++ (t ++ (putP l (decide (x.kind = 4)) (a + (if p.remark = true then remB else []).length + t.length)).1),
      { x with at_ := a + (if p.remark = true then remB else []).length } :: (putP l (decide (x.kind = 4)) (a + (if p.remark = true then remB else []).length + t.length)).2) := by
  rw [putP, h]
  simp only
  rw [if_neg hs]

theorem tokR_bnd {l : List UInt8} (hl : l.length ≤ 65536) (he : (tokR l).2.2 = 0) : ∀ t ∈ (tokR l).1, t.at_ ≤ l.length ∧ t.attrs.length ≤ 32 := by
  have h : ordT l 0 (tokR l).1 := by
    unfold tokR at he ⊢
    rw [if_neg (by omega)] at he ⊢
    by_cases hv : (validR l).2 ≠ 0
    · rw [if_pos hv] at he; exact absurd he hv
    · rw [if_neg hv] at he ⊢
      obtain ⟨more, h1, h2⟩ := tokS_order l l 0 [] rfl he
      rw [List.nil_append] at h1
      rw [h1]
      exact h2
  have key : ∀ (T : List Tok) (lo : Nat), ordT l lo T → ∀ t ∈ T, t.at_ ≤ l.length ∧ t.attrs.length ≤ 32 := by
    intro T
    induction T with
    | nil => intro lo _ t ht; cases ht
    | cons a T ih =>
      intro lo h t ht
      rw [ordT] at h
      rcases List.mem_cons.1 ht with rfl | ht
      · exact ⟨by omega, h.2.2.2.2.2.1⟩
      · exact ih _ h.2.2.2.2.2.2.2 t ht
  exact key _ _ h

/-- where the law's round stands -/
structure BackJ (w : World) (P : List PartX) (wr : World) (i : Nat) (s : ByteArray) (A : Option Addr) (c : Nat) (o : Option Nat) (X : List TokX) (text : Bool) : Prop where
  tl : TokL wr w.heap.size (.slice A X.length c) o X
  fr : Fr (fun _ => False) w wr
  res1 : s.data.toList ++ (putP ((P.map PartX.model).drop i) text s.size).1 = (putP (P.map PartX.model) false 0).1
  res2 : X.map (·.m) ++ (putP ((P.map PartX.model).drop i) text s.size).2 = (putP (P.map PartX.model) false 0).2
  ok : ∀ p ∈ (P.map PartX.model).take i, okPart p
  sz : s.size ≤ 1640 * i
  len : X.length ≤ i
theorem BackJ.start (w : World) (P : List PartX) : BackJ w P w 0 ⟨#[]⟩ none 0 none [] false :=
  ⟨TokL.nil_ _ _, Fr.refl _ _, rfl, rfl, fun p hp => (by simp at hp), Nat.le_refl _, Nat.le_refl _⟩
/-- all are done: the text is cut as it was -/
theorem BackJ.done {w : World} {P : List PartX} {wr : World} {s : ByteArray} {A : Option Addr} {c : Nat} {o : Option Nat} {X : List TokX} {text : Bool} (h : BackJ w P wr P.length s A c o X text) (h20 : P.length ≤ 20) :
    tokR s.data.toList = (X.map (·.m), 0, 0) := by
  have h1 := h.res1
  have h2 := h.res2
  rw [List.drop_of_length_le (by simp), putP] at h1 h2
  simp only [List.append_nil] at h1 h2
  have h3 := h.ok
  rw [List.take_of_length_le (by simp)] at h3
  have h4 := tokR_putP h3 (by simpa using h20)
  rw [h1, h2]
  exact h4
end Go.Proofs.YtalbehjjgdedcaaGreatDoor

namespace Go.Proofs.YtalbehjjgdedcaaGreatDoor
open Go.RowKit Go.Lib
attribute [local go_sem ↓] Go.wp_at_zero Go.wp_at_succ

theorem written_none {w : World} {S : Nat → Prop} {x : PartX} (h : PartOk w S x) (hS : ∀ k, S k → k < w.heap.size) (ht : x.p.text.size ≤ 40) (h5 : x.p.m ≤ 5) (hv : ∀ q ∈ x.ats, q.2.size ≤ 40) (hw : writtenP x.model = none) :
    Calls Tryz.prog 17 #[.agg #[.int .i64 x.p.kind, .string x.p.name, .slice x.p.A x.p.m x.p.c, .string x.p.text, .bool x.p.rm]] w fun e w' =>
      ∃ (t nm tx : ByteArray) (k : Int) (A : Option Addr) (m c : Nat) (i : Int), e = .returned (.tuple #[.string t, .agg #[.int .u8 k, .string nm, .slice A m c, .string tx, .int .i64 i], .bool false]) ∧ Fr (fun _ => False) w w' :=
  (written_any w S x h hS ht h5 hv).mono fun e w' hp => by
    obtain ⟨hf, hm⟩ := hp
    rw [hw] at hm
    obtain ⟨t, nm, tx, k, A, m, c, i, rfl⟩ := hm
    exact ⟨t, nm, tx, k, A, m, c, i, rfl, hf⟩
theorem written_some {w : World} {S : Nat → Prop} {x : PartX} (h : PartOk w S x) (hS : ∀ k, S k → k < w.heap.size) (ht : x.p.text.size ≤ 40) (h5 : x.p.m ≤ 5) (hv : ∀ q ∈ x.ats, q.2.size ≤ 40) {t : List UInt8} {y : Tok} (hw : writtenP x.model = some (t, y)) :
    Calls Tryz.prog 17 #[.agg #[.int .i64 x.p.kind, .string x.p.name, .slice x.p.A x.p.m x.p.c, .string x.p.text, .bool x.p.rm]] w fun e w' =>
      ∃ A c o, e = .returned (.tuple #[.string ⟨t.toArray⟩, .agg #[.int .u8 y.kind, .string ⟨y.name.toArray⟩, .slice A y.attrs.length c, .string ⟨y.text.toArray⟩, .int .i64 0], .bool true]) ∧
      Own pairC w' 38 (.slice A y.attrs.length c) o (y.attrs.map toPair) ∧ (∀ k, o = some k → w.heap.size ≤ k ∧ k < w'.heap.size) ∧ Fr (fun _ => False) w w' :=
  (written_any w S x h hS ht h5 hv).mono fun e w' hp => by
    obtain ⟨hf, hm⟩ := hp
    rw [hw] at hm
    obtain ⟨A, c, o, rfl, h1, h2⟩ := hm
    exact ⟨A, c, o, rfl, h1, h2, hf⟩

set_option maxRecDepth 100000 in
set_option maxHeartbeats 8000000 in
theorem tokenBack_any (P : List PartX) (A0 : Option Addr) (n c0 : Nat) (S : Nat → Prop) (w : World) (hst : St w) (hr : Rd partC w S (.slice A0 n c0) (P.map (·.p))) (hin : ∀ x ∈ P, PartOk w S x) (hS : ∀ k, S k → k < w.heap.size) :
    Calls Tryz.prog 4 #[.slice A0 n c0] w fun e w' => e = .returned (.bool true) ∧ Fr (fun _ => False) w w' := by
  have HST := hide (fun (W : World) (f : Fr (fun _ => False) w W) => hst.same f)
  have HWK := hide (fun (W : World) (f : Fr (fun _ => False) w W) => works_any W (HST.out W f))
  obtain ⟨hnl, hn63⟩ := hr.len_eq
  rw [List.length_map] at hnl
  have HR := hide hr
  have HIN := hide hin
  have HS := hide hS
  have HNL := hide hnl
  clear hst hr hin hS hnl
  by_cases h20 : n ≤ 20
  · have i1 : ¬ (20 : Int) < n := by omega
    have i2 : (n : Int) ≤ 20 := by omega
    go_enter Tryz.func4, Tryz.ntmps4
    go_wp2_with fail
    go_loopw [3, 4, 5, 6] (fun sv wv tv iv wr => ∃ (i : Nat) (s : ByteArray) (A : Option Addr) (c : Nat) (o : Option Nat) (X : List TokX) (text : Bool), sv = .string s ∧ wv = .slice A X.length c ∧ tv = .bool text ∧ iv = .int .i64 i ∧ i ≤ n ∧ Hid (BackJ w P wr i s A c o X text)) (fun _ _ _ iv _ => n - (Go.RowKit.intOf iv).toNat)
    case atStart => exact ⟨0, ⟨#[]⟩, none, 0, none, [], false, rfl, rfl, rfl, rfl, Nat.zero_le _, hide (BackJ.start w P)⟩
    case round =>
      obtain ⟨i, s, A, c, o, X, text, rfl, rfl, rfl, rfl, hin, hJ⟩ := hrel
      have hss : s.size ≤ 40000 := by have := hJ.out.sz; omega
      have hXl : X.length ≤ 20 := by have := hJ.out.len; omega
      by_cases hlt : i < n
      · have hii : (i : Int) < n := by omega
        have hiP : i < P.length := by rw [HNL.out]; exact hlt
        obtain ⟨g, off, cp, hv, -, -, hg, hc⟩ := (HR.out.fr hJ.out.fr (fun k hk => ⟨HS.out k hk, fun h => h⟩)).at_ (i := i) (by rw [List.length_map]; exact hiP)
        simp only [Value.slice.injEq] at hv
        obtain ⟨rfl, -, rfl⟩ := hv
        have q0 := hc 0 (by decide)
        have q1 := hc 1 (by decide)
        have q2 := hc 2 (by decide)
        have q3 := hc 3 (by decide)
        have q4 := hc 4 (by decide)
        rw [List.getElem_map] at q0 q1 q2 q3 q4
        obtain ⟨k1, k2, k3, k4⟩ := HIN.out _ (List.getElem_mem hiP)
        have hpo : PartOk wr S P[i] := ⟨k1.fr hJ.out.fr (fun k hk => ⟨HS.out k hk, fun h => h⟩), k2, k3, k4⟩
        have hSr : ∀ k, S k → k < wr.heap.size := fun k hk => Nat.lt_of_lt_of_le (HS.out k hk) hJ.out.fr.size
        have hdrop : (P.map PartX.model).drop i = P[i].model :: (P.map PartX.model).drop (i + 1) := by
          rw [List.drop_eq_getElem_cons (by rw [List.length_map]; exact hiP), List.getElem_map]
        have htake : (P.map PartX.model).take (i + 1) = (P.map PartX.model).take i ++ [P[i].model] := by
          rw [List.take_add_one, List.getElem?_eq_getElem (by rw [List.length_map]; exact hiP), List.getElem_map]; rfl
        have hgr : g < wr.heap.size := hSr g hg
        have HDR := hide hdrop
        have HTK := hide htake
        clear hc hdrop htake k1
        generalize P[i] = x at *
        clear hiP
        obtain ⟨⟨pk, pn, pA, pm, pc, pt, pr⟩, ats⟩ := x
        simp only [partC, Nat.add_zero, List.getElem?_cons_zero, List.getElem?_cons_succ, ← Nat.add_assoc] at q0 q1 q2 q3 q4
        have HPO := hide hpo
        have HSR := hide hSr
        have hrd := hpo.1
        simp only at hrd k2 k3 k4
        obtain ⟨hal, hm63⟩ := hrd.len_eq
        have HRD := hide hrd
        have HAL := hide hal
        have HK4 := hide k4
        clear hpo hSr hrd hal k4
        by_cases ht40 : pt.size ≤ 40
        · have it1 : ¬ (40 : Int) < pt.size := by omega
          have it2 : (pt.size : Int) ≤ 40 := by omega
          by_cases hm5 : pm ≤ 5
          · have im1 : ¬ (5 : Int) < pm := by omega
            have im2 : (pm : Int) ≤ 5 := by omega
            go_wp2_with fail
            go_loop [7] (fun kv => ∃ k : Nat, kv = .int .i64 k ∧ k ≤ pm ∧ Hid (∀ q ∈ ats.take k, q.2.size ≤ 40)) (fun kv => pm - (Go.RowKit.intOf kv).toNat)
            case atStart => exact ⟨0, rfl, Nat.zero_le _, hide (fun q hq => (by simp at hq))⟩
            case round =>
              obtain ⟨k, rfl, hkm, hall⟩ := hrel
              by_cases hkt : k < pm
              · have hki : (k : Int) < pm := by omega
                have hka : k < ats.length := by rw [HAL.out]; exact hkt
                obtain ⟨ga, offa, cpa, hva, -, -, -, hca⟩ := HRD.out.at_ (i := k) hka
                simp only [Value.slice.injEq] at hva
                obtain ⟨rfl, -, rfl⟩ := hva
                have a1 := hca 1 (by decide)
                have htk : ats.take (k + 1) = ats.take k ++ [ats[k]] := by rw [List.take_add_one, List.getElem?_eq_getElem hka]; rfl
                have hq2 := (HK4.out _ (List.getElem_mem hka)).2
                have HTA := hide htk
                clear hca htk
                generalize ats[k] = q at *
                clear hka
                obtain ⟨qx, qy⟩ := q
                simp only [pairC, List.getElem?_cons_zero, List.getElem?_cons_succ, ← Nat.add_assoc] at a1
                simp only at hq2
                by_cases hq40 : qy.size ≤ 40
                · have iq1 : ¬ (40 : Int) < qy.size := by omega
                  have iq2 : (qy.size : Int) ≤ 40 := by omega
                  go_wp2_with fail
                  go_round
                  case rel => exact ⟨k + 1, by go_num, by omega, hide (fun q hq => by
                    rw [HTA.out] at hq
                    rcases List.mem_append.1 hq with hq | hq
                    · exact hall.out q hq
                    · rw [List.mem_singleton] at hq; rw [hq]; exact hq40)⟩
                  case measure => simp [Go.RowKit.intOf]; omega
                · have iq1 : (40 : Int) < qy.size := by omega
                  go_wp2_with (go_at_call 11; refine (HWK.out _ hJ.out.fr).mono ?_; rintro e w5 ⟨rfl, f5⟩)
                  go_returns
                  exact ⟨rfl, hJ.out.fr.trans f5⟩
              · obtain rfl : k = pm := by omega
                have hvall : ∀ q ∈ ats, q.2.size ≤ 40 := by
                  have h1 := hall.out
                  rw [List.take_of_length_le (by rw [HAL.out]; exact Nat.le_refl _)] at h1
                  exact h1
                have hokp : okPart (PartX.model ⟨⟨pk, pn, pA, k, pc, pt, pr⟩, ats⟩) := ⟨ht40, by show (ats.map _).length ≤ 5; rw [List.length_map, HAL.out]; exact hm5, fun q hq => by
                  obtain ⟨q', hq', rfl⟩ := List.mem_map.1 hq
                  exact hvall q' hq'⟩
                have HOKP := hide hokp
                have hokn : ∀ p ∈ (P.map PartX.model).take (i + 1), okPart p := fun p hp => by
                  rw [HTK.out] at hp
                  rcases List.mem_append.1 hp with hp | hp
                  · exact hJ.out.ok p hp
                  · rw [List.mem_singleton] at hp; rw [hp]; exact HOKP.out
                have HOKN := hide hokn
                have HRM := hide (show (PartX.model ⟨⟨pk, pn, pA, k, pc, pt, pr⟩, ats⟩).remark = pr from rfl)
                have r1 := hJ.out.res1
                have r2 := hJ.out.res2
                rw [HDR.out] at r1 r2
                cases hw : writtenP (PartX.model ⟨⟨pk, pn, pA, k, pc, pt, pr⟩, ats⟩) with
                | none =>
                  have hwr := written_none HPO.out HSR.out ht40 hm5 hvall hw
                  simp only at hwr
                  have HWR := hide hwr
                  rw [putP_none hw] at r1 r2
                  have HR1 := hide r1
                  have HR2 := hide r2
                  clear hw hwr r1 r2 hvall hokp hokn
                  go_wp2_with (go_at_call 17; refine HWR.out.mono ?_; rintro e w3 ⟨tt, tn, tx, tk, tA, tm, tc, ti, rfl, f3⟩)
                  go_roundw
                  case rel => exact ⟨i + 1, s, A, c, o, X, text, rfl, rfl, rfl, by go_num, by omega, hide ⟨(hJ.out.tl.fr f3 (fun _ _ _ _ h => h)).fr (Fr.alloc (Fr.refl (fun _ => False) _) _) (fun _ _ _ _ h => h), (hJ.out.fr.trans f3).alloc _, HR1.out, HR2.out, HOKN.out, by have := hJ.out.sz; omega, by have := hJ.out.len; omega⟩⟩
                  case measure => simp [Go.RowKit.intOf]; omega
                | some ty =>
                  obtain ⟨tl, y⟩ := ty
                  obtain ⟨yk, ynm, yat, ytx, yatt⟩ := y
                  have hwr := written_some HPO.out HSR.out ht40 hm5 hvall hw
                  simp only at hwr
                  by_cases hsk : yk = 4 ∧ text = true ∧ pr = false
                  · obtain ⟨rfl, rfl, rfl⟩ := hsk
                    have HWR := hide hwr
                    rw [putP_skip hw ⟨rfl, rfl, rfl⟩] at r1 r2
                    have HR1 := hide r1
                    have HR2 := hide r2
                    clear hw hwr r1 r2 hvall hokp hokn
                    go_wp2_with (go_at_call 17; refine HWR.out.mono ?_; rintro e w3 ⟨A2, c2, oa, rfl, own3, new3, f3⟩; have hgx := (f3.cell (p := ⟨g, off + i * 5 + 4, none⟩) hgr (fun h => h)).trans q4; have hgb : g < w3.heap.size := Nat.lt_of_lt_of_le hgr f3.size; have hgn : ¬ g = w3.heap.size := (by omega))
                    go_roundw
                    case rel => exact ⟨i + 1, s, A, c, o, X, true, rfl, rfl, rfl, by go_num, by omega, hide ⟨(hJ.out.tl.fr f3 (fun _ _ _ _ h => h)).fr (Fr.alloc (Fr.refl (fun _ => False) _) _) (fun _ _ _ _ h => h), (hJ.out.fr.trans f3).alloc _, HR1.out, HR2.out, HOKN.out, by have := hJ.out.sz; omega, by have := hJ.out.len; omega⟩⟩
                    case measure => simp [Go.RowKit.intOf]; omega
                  · obtain ⟨tb, htb⟩ : ∃ tb : ByteArray, (⟨tl.toArray⟩ : ByteArray) = tb := ⟨_, rfl⟩
                    obtain ⟨yn, hyn⟩ : ∃ yn : ByteArray, (⟨ynm.toArray⟩ : ByteArray) = yn := ⟨_, rfl⟩
                    obtain ⟨yt, hyt⟩ : ∃ yt : ByteArray, (⟨ytx.toArray⟩ : ByteArray) = yt := ⟨_, rfl⟩
                    rw [htb, hyn, hyt] at hwr
                    have htbl : tb.data.toList = tl := by rw [← htb]
                    have htbz : tb.size ≤ 1620 := by
                      have h1 : tb.data.toList.length = tb.size := rfl
                      have h2 := written_len hw HOKP.out
                      rw [htbl] at h1
                      omega
                    clear htb
                    have hcomb : ((((yk : Nat) : Int) == 4) = false ∧ yk ≠ 4 ∧ pr = true) ∨ ((((yk : Nat) : Int) == 4) = false ∧ yk ≠ 4 ∧ pr = false) ∨ (yk = 4 ∧ text = false ∧ pr = true) ∨ (yk = 4 ∧ text = false ∧ pr = false) ∨ (yk = 4 ∧ text = true ∧ pr = true) := by
                      by_cases h4 : yk = 4
                      · cases text <;> cases pr <;> simp_all
                      · have h5 : (((yk : Nat) : Int) == 4) = false := by simp; omega
                        cases pr <;> simp_all
                    clear hsk
                    rcases hcomb with ⟨hk4, hk4', rfl⟩ | ⟨hk4, hk4', rfl⟩ | ⟨rfl, rfl, rfl⟩ | ⟨rfl, rfl, rfl⟩ | ⟨rfl, rfl, rfl⟩
                    · have HWR := hide hwr
                      obtain ⟨s1, hs1⟩ : ∃ s1 : ByteArray, s ++ ⟨#[60, 33, 45, 45, 32, 60, 97, 62, 32, 45, 45, 32, 38, 32, 45, 45, 62]⟩ = s1 := ⟨_, rfl⟩
                      have hs1d : s1.data.toList = s.data.toList ++ remB := by rw [← hs1, app_toList]; rfl
                      have hs1z : s1.size = s.size + (remB : List UInt8).length := by
                        have h1 : s1.data.toList.length = s1.size := rfl
                        have h2 : s.data.toList.length = s.size := rfl
                        rw [← h1, hs1d, List.length_append, h2]
                      have hs1b : s1.size ≤ 50000 := by rw [hs1z]; have : (remB : List UInt8).length ≤ 17 := by decide
                                                        omega
                      obtain ⟨s2, hs2⟩ : ∃ s2 : ByteArray, s1 ++ tb = s2 := ⟨_, rfl⟩
                      have hs2d : s2.data.toList = s1.data.toList ++ tl := by rw [← hs2, app_toList, htbl]
                      have hs2z : s2.size = s1.size + tl.length := by
                        have h1 : s2.data.toList.length = s2.size := rfl
                        have h2 : s1.data.toList.length = s1.size := rfl
                        rw [← h1, hs2d, List.length_append, h2]
                      have HRES := hide (show (s2.data.toList ++ (putP ((P.map PartX.model).drop (i + 1)) (decide (yk = 4)) s2.size).1 = (putP (P.map PartX.model) false 0).1) ∧ ((X.map (·.m) ++ [⟨yk, ynm, yat, ytx, s1.size⟩]) ++ (putP ((P.map PartX.model).drop (i + 1)) (decide (yk = 4)) s2.size).2 = (putP (P.map PartX.model) false 0).2) from by
                        rw [putP_step hw (by simp only [HRM.out]; exact fun h => hk4' h.1)] at r1 r2
                        simp only [HRM.out, if_true] at r1 r2
                        rw [← hs1z, ← hs2z] at r1 r2
                        rw [hs2d, hs1d]
                        refine ⟨by simpa using r1, by simpa using r2⟩)
                      have hw3z : s2.size ≤ 1640 * (i + 1) := by
                        have h1 := written_len hw HOKP.out
                        have h2 := hJ.out.sz
                        have : (remB : List UInt8).length ≤ 17 := by decide
                        rw [hs2z, hs1z]
                        omega
                      have HSZ := hide hw3z
                      have HXOK := hide (fun (W : World) (A2 : Option Addr) (c2 : Nat) (oa : Option Nat) (own : Own pairC W 38 (.slice A2 yat.length c2) oa (yat.map toPair)) => show TokOk W ⟨⟨(yk : Nat), yn, A2, yat.length, c2, yt, (s1.size : Int)⟩, oa, ⟨yk, ynm, yat, ytx, s1.size⟩⟩ from ⟨rfl, hyn.symm, hyt.symm, rfl, rfl, own⟩)
                      clear hwr hs1d hs1z hs2d hs2z hw3z r1 r2 hw htbl hyn hyt hvall hokp hokn
                      go_wp2_with (first
                        | (go_at_call 17; refine HWR.out.mono ?_; rintro e w3 ⟨A2, c2, oa, rfl, own3, new3, f3⟩; have OWN3 := hide own3; have NEW3 := hide new3; have F3 := hide f3; have hgx := (f3.cell (p := ⟨g, off + i * 5 + 4, none⟩) hgr (fun h => h)).trans q4; have hgb : g < w3.heap.size := Nat.lt_of_lt_of_le hgr f3.size; have hgn : ¬ g = w3.heap.size := (by omega);
                           have TL3 := hide (hJ.out.tl.fr f3 (fun _ _ _ _ h => h)))
                        | (at_builtin; (refine wpList_append_Own rfl rfl el_tok (by rfl) (by rfl) (TL3.out.own.fr (Fr.alloc (Fr.alloc (Fr.refl (fun _ => False) w3) _) _) (fun _ _ h => h)) (rd_tok w3 _ ⟨(yk : Nat), yn, A2, yat.length, c2, yt, (s1.size : Int)⟩ _) (by simp; omega) ?_); intro B1 d1 w4 o4 m4 g4 n4))
                      have h2 : Fr (fun _ => False) w3 ((w3.alloc (.cells #[.int .u8 (yk : Int), .string yn, .slice A2 yat.length c2, .string yt, .int .i64 (s1.size : Int)] 33)).alloc (.cells #[.int .u8 (yk : Int), .string yn, .slice A2 yat.length c2, .string yt, .int .i64 (s1.size : Int)] 33)) := Fr.alloc (Fr.alloc (Fr.refl _ _) _) _
                      have hsw := hJ.out.fr.size
                      have hs3 := F3.out.size
                      have hs4 := h2.size
                      have hown4 : Own tokC w4 33 (.slice B1 (X.length + 1) d1) o4 (X.map (·.t) ++ [⟨(yk : Int), yn, A2, yat.length, c2, yt, (s1.size : Int)⟩]) := by simpa using m4
                      have TL4 := hide (TL3.out.fr h2 (fun _ _ _ _ h => h))
                      have OW := hide (HXOK.out _ A2 c2 oa (OWN3.out.fr h2 (fun _ _ h => h)))
                      have TL5 := hide (TL4.out.snoc (v' := .slice B1 (X.length + 1) d1) OW.out (fun x hx => by
                        have hn := NEW3.out x hx
                        refine ⟨by omega, by omega, fun e => ?_, fun y hy e => ?_⟩
                        · have := (hJ.out.tl.new x e).2; omega
                        · have := (hJ.out.tl.newa y hy x e).2.1; omega) hown4 g4 n4 (by omega))
                      have FF := hide (((hJ.out.fr.trans F3.out).trans h2).then_ g4 (fun x h1 h2 => by have := (hJ.out.tl.new x h2).1; omega))
                      go_roundw
                      case rel => exact ⟨i + 1, s2, B1, d1, o4, X ++ [⟨⟨(yk : Int), yn, A2, yat.length, c2, yt, (s1.size : Int)⟩, oa, ⟨yk, ynm, yat, ytx, s1.size⟩⟩], false, rfl, by simp, rfl, by go_num, by omega, hide ⟨by simpa using TL5.out, FF.out, by simpa [hk4'] using HRES.out.1, by simpa [hk4'] using HRES.out.2, HOKN.out, HSZ.out, by rw [List.length_append]; have := hJ.out.len; simp only [List.length_cons, List.length_nil]; omega⟩⟩
                      case measure => simp [Go.RowKit.intOf]; omega
                    · have HWR := hide hwr
                      obtain ⟨s1, hs1⟩ : ∃ s1 : ByteArray, s = s1 := ⟨_, rfl⟩
                      have hs1d : s1.data.toList = s.data.toList ++ [] := by rw [← hs1, List.append_nil]
                      have hs1z : s1.size = s.size + ([] : List UInt8).length := by
                        have h1 : s1.data.toList.length = s1.size := rfl
                        have h2 : s.data.toList.length = s.size := rfl
                        rw [← h1, hs1d, List.length_append, h2]
                      have hs1b : s1.size ≤ 50000 := by rw [hs1z]; have : ([] : List UInt8).length ≤ 17 := by decide
                                                        omega
                      obtain ⟨s2, hs2⟩ : ∃ s2 : ByteArray, s1 ++ tb = s2 := ⟨_, rfl⟩
                      have hs2d : s2.data.toList = s1.data.toList ++ tl := by rw [← hs2, app_toList, htbl]
                      have hs2z : s2.size = s1.size + tl.length := by
                        have h1 : s2.data.toList.length = s2.size := rfl
                        have h2 : s1.data.toList.length = s1.size := rfl
                        rw [← h1, hs2d, List.length_append, h2]
                      have HRES := hide (show (s2.data.toList ++ (putP ((P.map PartX.model).drop (i + 1)) (decide (yk = 4)) s2.size).1 = (putP (P.map PartX.model) false 0).1) ∧ ((X.map (·.m) ++ [⟨yk, ynm, yat, ytx, s1.size⟩]) ++ (putP ((P.map PartX.model).drop (i + 1)) (decide (yk = 4)) s2.size).2 = (putP (P.map PartX.model) false 0).2) from by
                        rw [putP_step hw (by simp only [HRM.out]; exact fun h => hk4' h.1)] at r1 r2
                        simp only [HRM.out, if_neg (show ¬ false = true by decide)] at r1 r2
                        rw [← hs1z, ← hs2z] at r1 r2
                        rw [hs2d, hs1d]
                        refine ⟨by simpa using r1, by simpa using r2⟩)
                      have hw3z : s2.size ≤ 1640 * (i + 1) := by
                        have h1 := written_len hw HOKP.out
                        have h2 := hJ.out.sz
                        have : ([] : List UInt8).length ≤ 17 := by decide
                        rw [hs2z, hs1z]
                        omega
                      have HSZ := hide hw3z
                      have HXOK := hide (fun (W : World) (A2 : Option Addr) (c2 : Nat) (oa : Option Nat) (own : Own pairC W 38 (.slice A2 yat.length c2) oa (yat.map toPair)) => show TokOk W ⟨⟨(yk : Nat), yn, A2, yat.length, c2, yt, (s1.size : Int)⟩, oa, ⟨yk, ynm, yat, ytx, s1.size⟩⟩ from ⟨rfl, hyn.symm, hyt.symm, rfl, rfl, own⟩)
                      clear hwr hs1d hs1z hs2d hs2z hw3z r1 r2 hw htbl hyn hyt hvall hokp hokn
                      go_wp2_with (first
                        | (go_at_call 17; refine HWR.out.mono ?_; rintro e w3 ⟨A2, c2, oa, rfl, own3, new3, f3⟩; have OWN3 := hide own3; have NEW3 := hide new3; have F3 := hide f3; have hgx := (f3.cell (p := ⟨g, off + i * 5 + 4, none⟩) hgr (fun h => h)).trans q4; have hgb : g < w3.heap.size := Nat.lt_of_lt_of_le hgr f3.size; have hgn : ¬ g = w3.heap.size := (by omega);
                           have TL3 := hide (hJ.out.tl.fr f3 (fun _ _ _ _ h => h)))
                        | (at_builtin; (refine wpList_append_Own rfl rfl el_tok (by rfl) (by rfl) (TL3.out.own.fr (Fr.alloc (Fr.alloc (Fr.refl (fun _ => False) w3) _) _) (fun _ _ h => h)) (rd_tok w3 _ ⟨(yk : Nat), yn, A2, yat.length, c2, yt, (s1.size : Int)⟩ _) (by simp; omega) ?_); intro B1 d1 w4 o4 m4 g4 n4))
                      have h2 : Fr (fun _ => False) w3 ((w3.alloc (.cells #[.int .u8 (yk : Int), .string yn, .slice A2 yat.length c2, .string yt, .int .i64 (s1.size : Int)] 33)).alloc (.cells #[.int .u8 (yk : Int), .string yn, .slice A2 yat.length c2, .string yt, .int .i64 (s1.size : Int)] 33)) := Fr.alloc (Fr.alloc (Fr.refl _ _) _) _
                      have hsw := hJ.out.fr.size
                      have hs3 := F3.out.size
                      have hs4 := h2.size
                      have hown4 : Own tokC w4 33 (.slice B1 (X.length + 1) d1) o4 (X.map (·.t) ++ [⟨(yk : Int), yn, A2, yat.length, c2, yt, (s1.size : Int)⟩]) := by simpa using m4
                      have TL4 := hide (TL3.out.fr h2 (fun _ _ _ _ h => h))
                      have OW := hide (HXOK.out _ A2 c2 oa (OWN3.out.fr h2 (fun _ _ h => h)))
                      have TL5 := hide (TL4.out.snoc (v' := .slice B1 (X.length + 1) d1) OW.out (fun x hx => by
                        have hn := NEW3.out x hx
                        refine ⟨by omega, by omega, fun e => ?_, fun y hy e => ?_⟩
                        · have := (hJ.out.tl.new x e).2; omega
                        · have := (hJ.out.tl.newa y hy x e).2.1; omega) hown4 g4 n4 (by omega))
                      have FF := hide (((hJ.out.fr.trans F3.out).trans h2).then_ g4 (fun x h1 h2 => by have := (hJ.out.tl.new x h2).1; omega))
                      go_roundw
                      case rel => exact ⟨i + 1, s2, B1, d1, o4, X ++ [⟨⟨(yk : Int), yn, A2, yat.length, c2, yt, (s1.size : Int)⟩, oa, ⟨yk, ynm, yat, ytx, s1.size⟩⟩], false, rfl, by simp, rfl, by go_num, by omega, hide ⟨by simpa using TL5.out, FF.out, by simpa [hk4'] using HRES.out.1, by simpa [hk4'] using HRES.out.2, HOKN.out, HSZ.out, by rw [List.length_append]; have := hJ.out.len; simp only [List.length_cons, List.length_nil]; omega⟩⟩
                      case measure => simp [Go.RowKit.intOf]; omega
                    · have HWR := hide hwr
                      obtain ⟨s1, hs1⟩ : ∃ s1 : ByteArray, s ++ ⟨#[60, 33, 45, 45, 32, 60, 97, 62, 32, 45, 45, 32, 38, 32, 45, 45, 62]⟩ = s1 := ⟨_, rfl⟩
                      have hs1d : s1.data.toList = s.data.toList ++ remB := by rw [← hs1, app_toList]; rfl
                      have hs1z : s1.size = s.size + (remB : List UInt8).length := by
                        have h1 : s1.data.toList.length = s1.size := rfl
                        have h2 : s.data.toList.length = s.size := rfl
                        rw [← h1, hs1d, List.length_append, h2]
                      have hs1b : s1.size ≤ 50000 := by rw [hs1z]; have : (remB : List UInt8).length ≤ 17 := by decide
                                                        omega
                      obtain ⟨s2, hs2⟩ : ∃ s2 : ByteArray, s1 ++ tb = s2 := ⟨_, rfl⟩
                      have hs2d : s2.data.toList = s1.data.toList ++ tl := by rw [← hs2, app_toList, htbl]
                      have hs2z : s2.size = s1.size + tl.length := by
                        have h1 : s2.data.toList.length = s2.size := rfl
                        have h2 : s1.data.toList.length = s1.size := rfl
                        rw [← h1, hs2d, List.length_append, h2]
                      have HRES := hide (show (s2.data.toList ++ (putP ((P.map PartX.model).drop (i + 1)) (decide ((4 : Nat) = 4)) s2.size).1 = (putP (P.map PartX.model) false 0).1) ∧ ((X.map (·.m) ++ [⟨4, ynm, yat, ytx, s1.size⟩]) ++ (putP ((P.map PartX.model).drop (i + 1)) (decide ((4 : Nat) = 4)) s2.size).2 = (putP (P.map PartX.model) false 0).2) from by
                        rw [putP_step hw (by simp only [HRM.out]; exact fun h => by simp at h)] at r1 r2
                        simp only [HRM.out, if_true] at r1 r2
                        rw [← hs1z, ← hs2z] at r1 r2
                        rw [hs2d, hs1d]
                        refine ⟨by simpa using r1, by simpa using r2⟩)
                      have hw3z : s2.size ≤ 1640 * (i + 1) := by
                        have h1 := written_len hw HOKP.out
                        have h2 := hJ.out.sz
                        have : (remB : List UInt8).length ≤ 17 := by decide
                        rw [hs2z, hs1z]
                        omega
                      have HSZ := hide hw3z
                      have HXOK := hide (fun (W : World) (A2 : Option Addr) (c2 : Nat) (oa : Option Nat) (own : Own pairC W 38 (.slice A2 yat.length c2) oa (yat.map toPair)) => show TokOk W ⟨⟨4, yn, A2, yat.length, c2, yt, (s1.size : Int)⟩, oa, ⟨4, ynm, yat, ytx, s1.size⟩⟩ from ⟨rfl, hyn.symm, hyt.symm, rfl, rfl, own⟩)
                      clear hwr hs1d hs1z hs2d hs2z hw3z r1 r2 hw htbl hyn hyt hvall hokp hokn
                      go_wp2_with (first
                        | (go_at_call 17; refine HWR.out.mono ?_; rintro e w3 ⟨A2, c2, oa, rfl, own3, new3, f3⟩; have OWN3 := hide own3; have NEW3 := hide new3; have F3 := hide f3; have hgx := (f3.cell (p := ⟨g, off + i * 5 + 4, none⟩) hgr (fun h => h)).trans q4; have hgb : g < w3.heap.size := Nat.lt_of_lt_of_le hgr f3.size; have hgn : ¬ g = w3.heap.size := (by omega);
                           have TL3 := hide (hJ.out.tl.fr f3 (fun _ _ _ _ h => h)))
                        | (at_builtin; (refine wpList_append_Own rfl rfl el_tok (by rfl) (by rfl) (TL3.out.own.fr (Fr.alloc (Fr.alloc (Fr.refl (fun _ => False) w3) _) _) (fun _ _ h => h)) (rd_tok w3 _ ⟨4, yn, A2, yat.length, c2, yt, (s1.size : Int)⟩ _) (by simp; omega) ?_); intro B1 d1 w4 o4 m4 g4 n4))
                      have h2 : Fr (fun _ => False) w3 ((w3.alloc (.cells #[.int .u8 4, .string yn, .slice A2 yat.length c2, .string yt, .int .i64 (s1.size : Int)] 33)).alloc (.cells #[.int .u8 4, .string yn, .slice A2 yat.length c2, .string yt, .int .i64 (s1.size : Int)] 33)) := Fr.alloc (Fr.alloc (Fr.refl _ _) _) _
                      have hsw := hJ.out.fr.size
                      have hs3 := F3.out.size
                      have hs4 := h2.size
                      have hown4 : Own tokC w4 33 (.slice B1 (X.length + 1) d1) o4 (X.map (·.t) ++ [⟨4, yn, A2, yat.length, c2, yt, (s1.size : Int)⟩]) := by simpa using m4
                      have TL4 := hide (TL3.out.fr h2 (fun _ _ _ _ h => h))
                      have OW := hide (HXOK.out _ A2 c2 oa (OWN3.out.fr h2 (fun _ _ h => h)))
                      have TL5 := hide (TL4.out.snoc (v' := .slice B1 (X.length + 1) d1) OW.out (fun x hx => by
                        have hn := NEW3.out x hx
                        refine ⟨by omega, by omega, fun e => ?_, fun y hy e => ?_⟩
                        · have := (hJ.out.tl.new x e).2; omega
                        · have := (hJ.out.tl.newa y hy x e).2.1; omega) hown4 g4 n4 (by omega))
                      have FF := hide (((hJ.out.fr.trans F3.out).trans h2).then_ g4 (fun x h1 h2 => by have := (hJ.out.tl.new x h2).1; omega))
                      go_roundw
                      case rel => exact ⟨i + 1, s2, B1, d1, o4, X ++ [⟨⟨4, yn, A2, yat.length, c2, yt, (s1.size : Int)⟩, oa, ⟨4, ynm, yat, ytx, s1.size⟩⟩], true, rfl, by simp, rfl, by go_num, by omega, hide ⟨by simpa using TL5.out, FF.out, by simpa using HRES.out.1, by simpa using HRES.out.2, HOKN.out, HSZ.out, by rw [List.length_append]; have := hJ.out.len; simp only [List.length_cons, List.length_nil]; omega⟩⟩
                      case measure => simp [Go.RowKit.intOf]; omega
                    · have HWR := hide hwr
                      obtain ⟨s1, hs1⟩ : ∃ s1 : ByteArray, s = s1 := ⟨_, rfl⟩
                      have hs1d : s1.data.toList = s.data.toList ++ [] := by rw [← hs1, List.append_nil]
                      have hs1z : s1.size = s.size + ([] : List UInt8).length := by
                        have h1 : s1.data.toList.length = s1.size := rfl
                        have h2 : s.data.toList.length = s.size := rfl
                        rw [← h1, hs1d, List.length_append, h2]
                      have hs1b : s1.size ≤ 50000 := by rw [hs1z]; have : ([] : List UInt8).length ≤ 17 := by decide
                                                        omega
                      obtain ⟨s2, hs2⟩ : ∃ s2 : ByteArray, s1 ++ tb = s2 := ⟨_, rfl⟩
                      have hs2d : s2.data.toList = s1.data.toList ++ tl := by rw [← hs2, app_toList, htbl]
                      have hs2z : s2.size = s1.size + tl.length := by
                        have h1 : s2.data.toList.length = s2.size := rfl
                        have h2 : s1.data.toList.length = s1.size := rfl
                        rw [← h1, hs2d, List.length_append, h2]
                      have HRES := hide (show (s2.data.toList ++ (putP ((P.map PartX.model).drop (i + 1)) (decide ((4 : Nat) = 4)) s2.size).1 = (putP (P.map PartX.model) false 0).1) ∧ ((X.map (·.m) ++ [⟨4, ynm, yat, ytx, s1.size⟩]) ++ (putP ((P.map PartX.model).drop (i + 1)) (decide ((4 : Nat) = 4)) s2.size).2 = (putP (P.map PartX.model) false 0).2) from by
                        rw [putP_step hw (by simp only [HRM.out]; exact fun h => by simp at h)] at r1 r2
                        simp only [HRM.out, if_neg (show ¬ false = true by decide)] at r1 r2
                        rw [← hs1z, ← hs2z] at r1 r2
                        rw [hs2d, hs1d]
                        refine ⟨by simpa using r1, by simpa using r2⟩)
                      have hw3z : s2.size ≤ 1640 * (i + 1) := by
                        have h1 := written_len hw HOKP.out
                        have h2 := hJ.out.sz
                        have : ([] : List UInt8).length ≤ 17 := by decide
                        rw [hs2z, hs1z]
                        omega
                      have HSZ := hide hw3z
                      have HXOK := hide (fun (W : World) (A2 : Option Addr) (c2 : Nat) (oa : Option Nat) (own : Own pairC W 38 (.slice A2 yat.length c2) oa (yat.map toPair)) => show TokOk W ⟨⟨4, yn, A2, yat.length, c2, yt, (s1.size : Int)⟩, oa, ⟨4, ynm, yat, ytx, s1.size⟩⟩ from ⟨rfl, hyn.symm, hyt.symm, rfl, rfl, own⟩)
                      clear hwr hs1d hs1z hs2d hs2z hw3z r1 r2 hw htbl hyn hyt hvall hokp hokn
                      go_wp2_with (first
                        | (go_at_call 17; refine HWR.out.mono ?_; rintro e w3 ⟨A2, c2, oa, rfl, own3, new3, f3⟩; have OWN3 := hide own3; have NEW3 := hide new3; have F3 := hide f3; have hgx := (f3.cell (p := ⟨g, off + i * 5 + 4, none⟩) hgr (fun h => h)).trans q4; have hgb : g < w3.heap.size := Nat.lt_of_lt_of_le hgr f3.size; have hgn : ¬ g = w3.heap.size := (by omega);
                           have TL3 := hide (hJ.out.tl.fr f3 (fun _ _ _ _ h => h)))
                        | (at_builtin; (refine wpList_append_Own rfl rfl el_tok (by rfl) (by rfl) (TL3.out.own.fr (Fr.alloc (Fr.alloc (Fr.refl (fun _ => False) w3) _) _) (fun _ _ h => h)) (rd_tok w3 _ ⟨4, yn, A2, yat.length, c2, yt, (s1.size : Int)⟩ _) (by simp; omega) ?_); intro B1 d1 w4 o4 m4 g4 n4))
                      have h2 : Fr (fun _ => False) w3 ((w3.alloc (.cells #[.int .u8 4, .string yn, .slice A2 yat.length c2, .string yt, .int .i64 (s1.size : Int)] 33)).alloc (.cells #[.int .u8 4, .string yn, .slice A2 yat.length c2, .string yt, .int .i64 (s1.size : Int)] 33)) := Fr.alloc (Fr.alloc (Fr.refl _ _) _) _
                      have hsw := hJ.out.fr.size
                      have hs3 := F3.out.size
                      have hs4 := h2.size
                      have hown4 : Own tokC w4 33 (.slice B1 (X.length + 1) d1) o4 (X.map (·.t) ++ [⟨4, yn, A2, yat.length, c2, yt, (s1.size : Int)⟩]) := by simpa using m4
                      have TL4 := hide (TL3.out.fr h2 (fun _ _ _ _ h => h))
                      have OW := hide (HXOK.out _ A2 c2 oa (OWN3.out.fr h2 (fun _ _ h => h)))
                      have TL5 := hide (TL4.out.snoc (v' := .slice B1 (X.length + 1) d1) OW.out (fun x hx => by
                        have hn := NEW3.out x hx
                        refine ⟨by omega, by omega, fun e => ?_, fun y hy e => ?_⟩
                        · have := (hJ.out.tl.new x e).2; omega
                        · have := (hJ.out.tl.newa y hy x e).2.1; omega) hown4 g4 n4 (by omega))
                      have FF := hide (((hJ.out.fr.trans F3.out).trans h2).then_ g4 (fun x h1 h2 => by have := (hJ.out.tl.new x h2).1; omega))
                      go_roundw
                      case rel => exact ⟨i + 1, s2, B1, d1, o4, X ++ [⟨⟨4, yn, A2, yat.length, c2, yt, (s1.size : Int)⟩, oa, ⟨4, ynm, yat, ytx, s1.size⟩⟩], true, rfl, by simp, rfl, by go_num, by omega, hide ⟨by simpa using TL5.out, FF.out, by simpa using HRES.out.1, by simpa using HRES.out.2, HOKN.out, HSZ.out, by rw [List.length_append]; have := hJ.out.len; simp only [List.length_cons, List.length_nil]; omega⟩⟩
                      case measure => simp [Go.RowKit.intOf]; omega
                    · have HWR := hide hwr
                      obtain ⟨s1, hs1⟩ : ∃ s1 : ByteArray, s ++ ⟨#[60, 33, 45, 45, 32, 60, 97, 62, 32, 45, 45, 32, 38, 32, 45, 45, 62]⟩ = s1 := ⟨_, rfl⟩
                      have hs1d : s1.data.toList = s.data.toList ++ remB := by rw [← hs1, app_toList]; rfl
                      have hs1z : s1.size = s.size + (remB : List UInt8).length := by
                        have h1 : s1.data.toList.length = s1.size := rfl
                        have h2 : s.data.toList.length = s.size := rfl
                        rw [← h1, hs1d, List.length_append, h2]
                      have hs1b : s1.size ≤ 50000 := by rw [hs1z]; have : (remB : List UInt8).length ≤ 17 := by decide
                                                        omega
                      obtain ⟨s2, hs2⟩ : ∃ s2 : ByteArray, s1 ++ tb = s2 := ⟨_, rfl⟩
                      have hs2d : s2.data.toList = s1.data.toList ++ tl := by rw [← hs2, app_toList, htbl]
                      have hs2z : s2.size = s1.size + tl.length := by
                        have h1 : s2.data.toList.length = s2.size := rfl
                        have h2 : s1.data.toList.length = s1.size := rfl
                        rw [← h1, hs2d, List.length_append, h2]
                      have HRES := hide (show (s2.data.toList ++ (putP ((P.map PartX.model).drop (i + 1)) (decide ((4 : Nat) = 4)) s2.size).1 = (putP (P.map PartX.model) false 0).1) ∧ ((X.map (·.m) ++ [⟨4, ynm, yat, ytx, s1.size⟩]) ++ (putP ((P.map PartX.model).drop (i + 1)) (decide ((4 : Nat) = 4)) s2.size).2 = (putP (P.map PartX.model) false 0).2) from by
                        rw [putP_step hw (by simp only [HRM.out]; exact fun h => by simp at h)] at r1 r2
                        simp only [HRM.out, if_true] at r1 r2
                        rw [← hs1z, ← hs2z] at r1 r2
                        rw [hs2d, hs1d]
                        refine ⟨by simpa using r1, by simpa using r2⟩)
                      have hw3z : s2.size ≤ 1640 * (i + 1) := by
                        have h1 := written_len hw HOKP.out
                        have h2 := hJ.out.sz
                        have : (remB : List UInt8).length ≤ 17 := by decide
                        rw [hs2z, hs1z]
                        omega
                      have HSZ := hide hw3z
                      have HXOK := hide (fun (W : World) (A2 : Option Addr) (c2 : Nat) (oa : Option Nat) (own : Own pairC W 38 (.slice A2 yat.length c2) oa (yat.map toPair)) => show TokOk W ⟨⟨4, yn, A2, yat.length, c2, yt, (s1.size : Int)⟩, oa, ⟨4, ynm, yat, ytx, s1.size⟩⟩ from ⟨rfl, hyn.symm, hyt.symm, rfl, rfl, own⟩)
                      clear hwr hs1d hs1z hs2d hs2z hw3z r1 r2 hw htbl hyn hyt hvall hokp hokn
                      go_wp2_with (first
                        | (go_at_call 17; refine HWR.out.mono ?_; rintro e w3 ⟨A2, c2, oa, rfl, own3, new3, f3⟩; have OWN3 := hide own3; have NEW3 := hide new3; have F3 := hide f3; have hgx := (f3.cell (p := ⟨g, off + i * 5 + 4, none⟩) hgr (fun h => h)).trans q4; have hgb : g < w3.heap.size := Nat.lt_of_lt_of_le hgr f3.size; have hgn : ¬ g = w3.heap.size := (by omega);
                           have TL3 := hide (hJ.out.tl.fr f3 (fun _ _ _ _ h => h)))
                        | (at_builtin; (refine wpList_append_Own rfl rfl el_tok (by rfl) (by rfl) (TL3.out.own.fr (Fr.alloc (Fr.alloc (Fr.refl (fun _ => False) w3) _) _) (fun _ _ h => h)) (rd_tok w3 _ ⟨4, yn, A2, yat.length, c2, yt, (s1.size : Int)⟩ _) (by simp; omega) ?_); intro B1 d1 w4 o4 m4 g4 n4))
                      have h2 : Fr (fun _ => False) w3 ((w3.alloc (.cells #[.int .u8 4, .string yn, .slice A2 yat.length c2, .string yt, .int .i64 (s1.size : Int)] 33)).alloc (.cells #[.int .u8 4, .string yn, .slice A2 yat.length c2, .string yt, .int .i64 (s1.size : Int)] 33)) := Fr.alloc (Fr.alloc (Fr.refl _ _) _) _
                      have hsw := hJ.out.fr.size
                      have hs3 := F3.out.size
                      have hs4 := h2.size
                      have hown4 : Own tokC w4 33 (.slice B1 (X.length + 1) d1) o4 (X.map (·.t) ++ [⟨4, yn, A2, yat.length, c2, yt, (s1.size : Int)⟩]) := by simpa using m4
                      have TL4 := hide (TL3.out.fr h2 (fun _ _ _ _ h => h))
                      have OW := hide (HXOK.out _ A2 c2 oa (OWN3.out.fr h2 (fun _ _ h => h)))
                      have TL5 := hide (TL4.out.snoc (v' := .slice B1 (X.length + 1) d1) OW.out (fun x hx => by
                        have hn := NEW3.out x hx
                        refine ⟨by omega, by omega, fun e => ?_, fun y hy e => ?_⟩
                        · have := (hJ.out.tl.new x e).2; omega
                        · have := (hJ.out.tl.newa y hy x e).2.1; omega) hown4 g4 n4 (by omega))
                      have FF := hide (((hJ.out.fr.trans F3.out).trans h2).then_ g4 (fun x h1 h2 => by have := (hJ.out.tl.new x h2).1; omega))
                      go_roundw
                      case rel => exact ⟨i + 1, s2, B1, d1, o4, X ++ [⟨⟨4, yn, A2, yat.length, c2, yt, (s1.size : Int)⟩, oa, ⟨4, ynm, yat, ytx, s1.size⟩⟩], true, rfl, by simp, rfl, by go_num, by omega, hide ⟨by simpa using TL5.out, FF.out, by simpa using HRES.out.1, by simpa using HRES.out.2, HOKN.out, HSZ.out, by rw [List.length_append]; have := hJ.out.len; simp only [List.length_cons, List.length_nil]; omega⟩⟩
                      case measure => simp [Go.RowKit.intOf]; omega
          · have im1 : (5 : Int) < pm := by omega
            go_wp2_with (go_at_call 11; refine (HWK.out _ hJ.out.fr).mono ?_; rintro e w5 ⟨rfl, f5⟩)
            go_returns
            exact ⟨rfl, hJ.out.fr.trans f5⟩
        · have it1 : (40 : Int) < pt.size := by omega
          go_wp2_with (go_at_call 11; refine (HWK.out _ hJ.out.fr).mono ?_; rintro e w5 ⟨rfl, f5⟩)
          go_returns
          exact ⟨rfl, hJ.out.fr.trans f5⟩
      · obtain rfl : i = n := by omega
        have hnl := HNL.out
        have hj := hJ.out
        rw [← hnl] at hj
        have hdone := hj.done (by omega)
        have HTZ := hide (fun (W : World) (f : Fr (fun _ => False) w W) => (tokens_any s W (HST.out W f)).mono (R' := fun e w' => ∃ A c o Z, e = .returned (.tuple #[.slice A X.length c, .int .i64 0, .int .i64 0]) ∧ TokL w' W.heap.size (.slice A X.length c) o Z ∧ Z.map (·.m) = X.map (·.m) ∧ Fr (fun _ => False) W w') (fun e w' ⟨A, c, o, Z, h1, h2, h3, h4⟩ => by
          rw [hdone] at h1 h3
          have h3' : Z.map (·.m) = X.map (·.m) := h3
          have hl : Z.length = X.length := by have := congrArg List.length h3'; simpa using this
          rw [hl] at h1 h2
          exact ⟨A, c, o, Z, h1, h2, h3', h4⟩))
        have hbd : ∀ y ∈ X, y.m.at_ + 0 ≤ 2000000 ∧ y.m.attrs.length ≤ 1000000 := fun y hy => by
          have h1 : s.data.toList.length = s.size := rfl
          have h2 := tokR_bnd (l := s.data.toList) (by omega) (by rw [hdone]) y.m (by rw [hdone]; exact List.mem_map_of_mem hy)
          omega
        have HBD := hide hbd
        clear hbd hdone hj hnl
        go_wp2_with (first
          | (go_at_call 13; refine (HTZ.out _ hJ.out.fr).mono ?_; rintro e w3 ⟨A3, c3, o3, Z, rfl, tl3, hZ, f3⟩; have F3 := hide (hJ.out.fr.trans f3);
             have HSM := hide (show Calls Tryz.prog 18 #[.slice A3 X.length c3, .slice A X.length c, .int .i64 0] w3 fun e w' => e = .returned (.bool true) ∧ Fr (fun _ => False) w3 w' from by
               have tl1 := hJ.out.tl.fr f3 (fun _ _ _ _ h => h)
               exact same_true w3 _ _ X.length c3 c Z X _ _ tl3.own.rd tl1.own.rd (fun k hk => tl3.own.lt k hk) (fun k hk => tl1.own.lt k hk) tl3.ok tl1.ok 0 (by rw [hZ]; exact (List.map_id _).symm) HBD.out))
          | (go_at_call 18; refine HSM.out.mono ?_; rintro e w4 ⟨rfl, f4⟩)
          | (go_at_call 11; refine (HWK.out _ (F3.out.trans f4)).mono ?_; rintro e w5 ⟨rfl, f5⟩))
        go_returns
        exact ⟨rfl, (F3.out.trans f4).trans f5⟩
  · have i1 : (20 : Int) < n := by omega
    go_enter Tryz.func4, Tryz.ntmps4
    go_wp2_with (go_at_call 11; refine (HWK.out _ (Fr.refl _ _)).mono ?_; rintro e w5 ⟨rfl, f5⟩)
    go_returns
    exact ⟨rfl, f5⟩
end Go.Proofs.YtalbehjjgdedcaaGreatDoor

namespace Go.Proofs.YtalbehjjgdedcaaGreatDoor
open Go.RowKit Go.ChangeShapes Go.WideShapes Go.Deep Go.WideElems

section
variable {H : Type} {enc : TypeId × Value → H} {P : Program}
theorem rd_of_trod_at {α : Type} (C : Cod α) {W : World} {t e : TypeId} {fuel : Nat} {a0 : Option Addr} {n0 c0 : Nat} {x : DataW H × List MemPlace} (ht : P.underlying t = some (.slice e)) (hC : P.cellsOf e = C.size)
    (hread : ∀ (n : Nat) (cs : List Value) (x : DataW H × List MemPlace), DataW.trod enc P W 0 (fun _ => true) true n e cs = some x → ∃ a : α, cs = C.cells a)
    (hf : DataW.trod enc P W 0 (fun _ => true) true fuel t [.slice a0 n0 c0] = some x) : ∃ l : List α, Rd C W (· < W.heap.size) (.slice a0 n0 c0) l := by
  rcases open_slice ht hf with ⟨hcs, -⟩ | ⟨a, len, cap, m, n, D, Pl, hcs, hb, hl, hm, hmm, hx, hi⟩
  · simp only [Value.cells, List.cons.injEq, Value.slice.injEq, and_true] at hcs
    obtain ⟨rfl, rfl, rfl⟩ := hcs
    exact ⟨[], Rd.nil_ _ _ _⟩
  · simp only [Value.cells, List.cons.injEq, Value.slice.injEq, and_true] at hcs
    obtain ⟨rfl, rfl, rfl⟩ := hcs
    simp only [if_true] at hmm
    subst hmm
    have hel : ∀ i, i < n0 → ∃ x : α, ∀ j, j < C.size → W.cell? ((a.add (i * C.size)).add j) = (C.cells x)[j]? := by
      intro i hin
      obtain ⟨cs', hc, ht'⟩ := hi i (by omega)
      obtain ⟨x, rfl⟩ := hread n cs' _ ht'
      obtain ⟨-, -, hat⟩ := World.cells?_some hc
      rw [hC] at hat
      exact ⟨x, hat⟩
    have hl' : ∃ l : List α, l.length = n0 ∧ ∀ i (hi : i < l.length), ∀ j, j < C.size → W.cell? ((a.add (i * C.size)).add j) = (C.cells l[i])[j]? := by
      clear hi hx hl hf
      induction n0 with
      | zero => exact ⟨[], rfl, fun i hi => absurd hi (by simp)⟩
      | succ n0 ih =>
        obtain ⟨l, hl, hh⟩ := ih (fun i hi => hel i (by omega))
        obtain ⟨x, hx⟩ := hel n0 (by omega)
        refine ⟨l ++ [x], by simp [hl], fun i hi j hj => ?_⟩
        by_cases hil : i < l.length
        · rw [List.getElem_append_left hil]; exact hh i hil j hj
        · have : i = n0 := by simp at hi; omega
          subst this
          rw [List.getElem_append_right (by omega)]
          simpa [hl] using hx j hj
    obtain ⟨l, hll, hcell⟩ := hl'
    subst hll
    refine ⟨l, some a, m, rfl, hl, hm, fun h => (by cases h), fun hp => ?_⟩
    have hC0 := C.pos
    have h0 := hcell 0 hp 0 hC0
    have hsome : ∃ u, (C.cells l[0])[0]? = some u := ⟨_, List.getElem?_eq_getElem (by rw [C.len]; exact hC0)⟩
    obtain ⟨u, hu⟩ := hsome
    rw [hu] at h0
    have hspot : a.spot = none := by
      cases hs : a.spot with
      | none => rfl
      | some q =>
        simp only [Nat.zero_mul, Addr.add, if_true, World.cell?, hs] at h0
        split at h0 <;> simp at h0
    obtain ⟨g, off, sp⟩ := a
    simp only at hspot
    subst hspot
    refine ⟨g, off, rfl, ?_, fun j u hu => ?_⟩
    · have := World.block_lt_of_cell? W _ h0
      simpa [Addr.add] using this
    · have hj : j < l.length * C.size := by
        rw [← C.flat_len]
        exact (List.getElem?_eq_some_iff.1 hu).1
      have hq : j / C.size < l.length := Nat.div_lt_of_lt_mul (by rw [Nat.mul_comm]; exact hj)
      have hr : j % C.size < C.size := Nat.mod_lt _ hC0
      have hj2 : j / C.size * C.size + j % C.size = j := by rw [Nat.mul_comm]; exact Nat.div_add_mod j C.size
      have h1 := hcell (j / C.size) hq (j % C.size) hr
      rw [Addr.add_lit, Addr.add_lit, Nat.add_assoc, hj2] at h1
      rw [h1, ← hu, ← C.flat_at l _ _ hq hr, hj2]

end

theorem slice_cs {H : Type} {enc : TypeId × Value → H} {P : Program} {W : World} {t e : TypeId} {fuel : Nat} {c : Value} {x : DataW H × List MemPlace} (ht : P.underlying t = some (.slice e)) (hf : DataW.trod enc P W 0 (fun _ => true) true fuel t [c] = some x) :
    ∃ a0 n0 c0, c = .slice a0 n0 c0 := by
  rcases open_slice ht hf with ⟨hcs, -⟩ | ⟨a, len, cap, m, n, D, Pl, hcs, -⟩
  · simp only [List.cons.injEq, and_true] at hcs
    exact ⟨_, _, _, hcs⟩
  · simp only [List.cons.injEq, and_true] at hcs
    exact ⟨_, _, _, hcs⟩

/-- other cells, the same values -/
theorem Rd.conv {α β : Type} {C : Cod α} {D : Cod β} {w : World} {S : Nat → Prop} {v : Value} {l : List α} (f : α → β) (hf : ∀ a, C.cells a = D.cells (f a)) (h : Rd C w S v l) : Rd D w S v (l.map f) := by
  have hfl : ∀ l : List α, C.flat l = D.flat (l.map f) := by
    intro l
    induction l with
    | nil => rfl
    | cons a l ih => rw [List.map_cons, C.flat_cons, D.flat_cons, ih, hf]
  obtain ⟨A, cap, h1, h2, h3, h4, h5⟩ := h
  refine ⟨A, cap, by rw [List.length_map]; exact h1, by rw [List.length_map]; exact h2, h3, h4, fun hp => ?_⟩
  obtain ⟨g, off, e1, e2, e3⟩ := h5 (by rw [List.length_map] at hp; exact hp)
  exact ⟨g, off, e1, e2, fun j u hu => e3 j u (by rw [hfl]; exact hu)⟩

/-- an attribute whose strings have sizes -/
def PairZ : Type := { q : ByteArray × ByteArray // q.1.size ≤ 9223372036854775807 ∧ q.2.size ≤ 9223372036854775807 }
def pairZ : Cod PairZ where
  size := 2
  cells x := pairC.cells x.1
  len x := pairC.len x.1
  one x := pairC.one x.1
  pos := by decide
def PartZ (W : World) : Type := { x : PartX // PartOk W (· < W.heap.size) x }
def partZ (W : World) : Cod (PartZ W) where
  size := 5
  cells x := partC.cells x.1.p
  len x := partC.len x.1.p
  one x := partC.one x.1.p
  pos := by decide

section
variable {H : Type} {enc : TypeId × Value → H} {W : World}
set_option maxRecDepth 100000 in
theorem pair_read {n : Nat} {cs : List Value} {x : DataW H × List MemPlace} (h : DataW.trod enc Tryz.prog W 0 (fun _ => true) true n 38 cs = some x) : ∃ a : PairZ, cs = pairZ.cells a := by
  obtain ⟨xs, n', -, -, hlen, hxl, hf⟩ := DataW.trod_struct Tryz.underlying38 h
  replace hlen : cs.length = 2 := hlen
  replace hxl : xs.length = 2 := hxl
  match cs, hlen, xs, hxl with
  | [c0, c1], _, [x0, x1], _ =>
    have f0 : DataW.trod enc Tryz.prog W 0 (fun _ => true) true n' 9 [c0] = some x0 := hf 0 _ rfl
    have f1 : DataW.trod enc Tryz.prog W 0 (fun _ => true) true n' 9 [c1] = some x1 := hf 1 _ rfl
    obtain ⟨a0, e0, -, z0⟩ := DataW.trod_string Tryz.underlying9 f0
    obtain ⟨a1, e1, -, z1⟩ := DataW.trod_string Tryz.underlying9 f1
    simp only [List.cons.injEq, and_true] at e0 e1
    subst e0 e1
    exact ⟨⟨(a0, a1), z0, z1⟩, rfl⟩
set_option maxRecDepth 100000 in
theorem part_read {n : Nat} {cs : List Value} {x : DataW H × List MemPlace} (h : DataW.trod enc Tryz.prog W 0 (fun _ => true) true n 42 cs = some x) : ∃ a : PartZ W, cs = (partZ W).cells a := by
  obtain ⟨xs, n', -, -, hlen, hxl, hf⟩ := DataW.trod_struct Tryz.underlying42 h
  replace hlen : cs.length = 5 := hlen
  replace hxl : xs.length = 5 := hxl
  match cs, hlen, xs, hxl with
  | [c0, c1, c2, c3, c4], _, [x0, x1, x2, x3, x4], _ =>
    have f0 : DataW.trod enc Tryz.prog W 0 (fun _ => true) true n' 3 [c0] = some x0 := hf 0 _ rfl
    have f1 : DataW.trod enc Tryz.prog W 0 (fun _ => true) true n' 9 [c1] = some x1 := hf 1 _ rfl
    have f2 : DataW.trod enc Tryz.prog W 0 (fun _ => true) true n' 31 [c2] = some x2 := hf 2 _ rfl
    have f3 : DataW.trod enc Tryz.prog W 0 (fun _ => true) true n' 9 [c3] = some x3 := hf 3 _ rfl
    have f4 : DataW.trod enc Tryz.prog W 0 (fun _ => true) true n' 4 [c4] = some x4 := hf 4 _ rfl
    obtain ⟨a0, e0, -, -⟩ := DataW.trod_int Tryz.underlying3 f0
    obtain ⟨a1, e1, -, z1⟩ := DataW.trod_string Tryz.underlying9 f1
    obtain ⟨A, m, c, e2⟩ := slice_cs Tryz.underlying31 f2
    obtain ⟨a3, e3, -, z3⟩ := DataW.trod_string Tryz.underlying9 f3
    obtain ⟨a4, e4, -⟩ := DataW.trod_bool Tryz.underlying4 f4
    simp only [List.cons.injEq, and_true] at e0 e1 e3 e4
    subst e0 e1 e2 e3 e4
    obtain ⟨l, hl⟩ := rd_of_trod_at pairZ Tryz.underlying31 (by kernel_rfl) (fun n cs x hx => pair_read hx) f2
    refine ⟨⟨⟨⟨a0, a1, A, m, c, a3, a4⟩, l.map (·.1)⟩, hl.conv (D := pairC) (·.1) (fun _ => rfl), z1, z3, fun q hq => ?_⟩, rfl⟩
    obtain ⟨q', -, rfl⟩ := List.mem_map.1 hq
    exact q'.2
end

theorem tokenBack_z {W : World} (v : Value) (l : List (PartZ W)) (hr : Rd (partZ W) W (· < W.heap.size) v l) (hst : St W) :
    Calls Tryz.prog 4 #[v] W fun e w' => e = .returned (.bool true) ∧ Fr (fun _ => False) W w' := by
  obtain ⟨A, c, rfl, -, -⟩ := hr.form
  have h1 := hr.conv (D := partC) (fun a => a.1.p) (fun _ => rfl)
  refine tokenBack_any (l.map (·.1)) A l.length c (· < W.heap.size) W hst (by rw [List.map_map]; exact h1) (fun x hx => ?_) (fun _ h => h)
  obtain ⟨y, -, rfl⟩ := List.mem_map.1 hx
  exact y.2
end Go.Proofs.YtalbehjjgdedcaaGreatDoor
