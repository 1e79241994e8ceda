/- token: the law's is; any text is cut as the reference says, and what is answered may be written over. -/
import Derived.Test.YtalbehjjgdedcaaGreatDoorRtkF
import Derived.Test.YtalbehjjgdedcaaGreatDoorTokW
namespace Go.Proofs.YtalbehjjgdedcaaGreatDoor
open Go.RowKit Go.Lib
attribute [local go_sem ↓] Go.wp_at_zero Go.wp_at_succ

theorem Rd.len_eq {α : Type} {C : Cod α} {w : World} {S : Nat → Prop} {A : Option Addr} {m c : Nat} {l : List α} (h : Rd C w S (.slice A m c) l) : l.length = m ∧ m ≤ 9223372036854775807 := by
  obtain ⟨A', c', hv, h1, h2, -, -⟩ := h
  simp only [Value.slice.injEq] at hv
  unfold maxLen at h2
  omega

set_option maxRecDepth 100000 in
set_option maxHeartbeats 4000000 in
theorem is_true (w : World) (kd : Int) (nm tx : ByteArray) (ta : Int) (A B : Option Addr) (m c c' : Nat) (La : List (ByteArray × ByteArray)) (Lb : List RawV) (S S' : Nat → Prop) (ha : Rd pairC w S (.slice A m c) La) (hb : Rd rawC w S' (.slice B m c') Lb)
    (hS : ∀ k, S k → k < w.heap.size) (hS' : ∀ k, S' k → k < w.heap.size) (h : Lb.map nv = La) :
    Calls Tryz.prog 14 #[.agg #[.int .u8 kd, .string nm, .slice A m c, .string tx, .int .i64 ta], .agg #[.int .u8 kd, .string nm, .slice B m c', .string tx, .int .i64 ta]] w
      fun e w' => e = .returned (.bool true) ∧ Fr (fun _ => False) w w' := by
  obtain ⟨hla, hm63⟩ := ha.len_eq
  have hlb := hb.len_eq.1
  have hf0 : Fr (fun _ => False) w ((w.alloc (.cells #[.int .u8 kd, .string nm, .slice A m c, .string tx, .int .i64 ta] 33)).alloc (.cells #[.int .u8 kd, .string nm, .slice B m c', .string tx, .int .i64 ta] 36)) := Fr.alloc (Fr.alloc (Fr.refl _ _) _) _
  have ht : TokAt ((w.alloc (.cells #[.int .u8 kd, .string nm, .slice A m c, .string tx, .int .i64 ta] 33)).alloc (.cells #[.int .u8 kd, .string nm, .slice B m c', .string tx, .int .i64 ta] 36)) w.heap.size kd nm (.slice A m c) tx ta := by
    refine ⟨?_⟩
    rw [Below.heap_alloc _ _ _ (by simp)]
    exact heap_alloc_new w _
  have hr : RTokAt ((w.alloc (.cells #[.int .u8 kd, .string nm, .slice A m c, .string tx, .int .i64 ta] 33)).alloc (.cells #[.int .u8 kd, .string nm, .slice B m c', .string tx, .int .i64 ta] 36)) (w.heap.size + 1) kd nm (.slice B m c') tx ta := by
    refine ⟨?_⟩
    have := heap_alloc_new (w.alloc (.cells #[.int .u8 kd, .string nm, .slice A m c, .string tx, .int .i64 ta] 33)) (.cells #[.int .u8 kd, .string nm, .slice B m c', .string tx, .int .i64 ta] 36)
    simpa using this
  have HF0 := hide hf0
  have HT := hide ht
  have HR := hide hr
  have HA := hide (ha.fr hf0 (fun k hk => ⟨hS k hk, fun h => h⟩))
  have HB := hide (hb.fr hf0 (fun k hk => ⟨hS' k hk, fun h => h⟩))
  have HSS := hide (fun k hk => Nat.lt_of_lt_of_le (hS k hk) hf0.size)
  have HSS' := hide (fun k hk => Nat.lt_of_lt_of_le (hS' k hk) hf0.size)
  have HLA := hide hla
  have HLB := hide hlb
  have HH := hide h
  clear hS hS' ha hb hla hlb h hf0
  obtain ⟨z0, z1, z2, z3, z4, -⟩ := ht.facts
  obtain ⟨y0, y1, y2, y3, y4, -⟩ := hr.facts
  clear ht hr
  go_enter Tryz.func14, Tryz.ntmps14
  go_wp2_with fail
  go_loopw [5] (fun i wr => ∃ k : Nat, i = .int .i64 k ∧ k ≤ m ∧ Hid (Fr (fun _ => False) ((w.alloc (.cells #[.int .u8 kd, .string nm, .slice A m c, .string tx, .int .i64 ta] 33)).alloc (.cells #[.int .u8 kd, .string nm, .slice B m c', .string tx, .int .i64 ta] 36)) wr)) (fun i _ => m - (Go.RowKit.intOf i).toNat)
  case atStart => exact ⟨0, rfl, Nat.zero_le _, hide (Fr.refl _ _)⟩
  case round =>
    obtain ⟨k, rfl, hk, hfr⟩ := hrel
    clear z0 z1 z2 z3 z4 y0 y1 y2 y3 y4
    obtain ⟨z0, z1, z2, z3, z4, -⟩ := (HT.out.fr hfr.out (fun h => h)).facts
    obtain ⟨y0, y1, y2, y3, y4, -⟩ := (HR.out.fr hfr.out (fun h => h)).facts
    by_cases hlt : k < m
    · have hki : (k : Int) < m := by omega
      have hka : k < La.length := by rw [HLA.out]; exact hlt
      have hkb : k < Lb.length := by rw [HLB.out]; exact hlt
      obtain ⟨g, off, cp, hv, -, -, hg, hc⟩ := (HA.out.fr hfr.out (fun k hk => ⟨HSS.out k hk, fun h => h⟩)).at_ hka
      obtain ⟨g', off', cp', hv', -, -, hg', hc'⟩ := (HB.out.fr hfr.out (fun k hk => ⟨HSS'.out k hk, fun h => h⟩)).at_ hkb
      have hpair : La[k] = nv Lb[k] := by
        have h1 := HH.out
        subst h1
        rw [List.getElem_map]
      simp only [Value.slice.injEq] at hv hv'
      obtain ⟨rfl, -, rfl⟩ := hv
      obtain ⟨rfl, -, rfl⟩ := hv'
      have q0 := hc 0 (by decide)
      have q1 := hc 1 (by decide)
      have p0 := hc' 0 (by decide)
      have p1 := hc' 1 (by decide)
      rw [hpair] at q0 q1
      generalize Lb[k] = x at *
      obtain ⟨xn, xv, xa⟩ := x
      simp only [pairC, rawC, nv, Nat.add_zero, List.getElem?_cons_zero, List.getElem?_cons_succ, ← Nat.add_assoc] at q0 q1 p0 p1
      clear hc hc' hpair hka hkb
      go_wp2_with fail
      go_quiet (fail)
      go_wp2_with fail
      go_roundw
      case rel => exact ⟨k + 1, by go_num, by omega, hide (Fr.drewN hfr.out _)⟩
      case measure => simp [Go.RowKit.intOf]; omega
    · obtain rfl : k = m := by omega
      go_wp2_with fail
      go_returns
      exact ⟨rfl, HF0.out.trans hfr.out⟩
end Go.Proofs.YtalbehjjgdedcaaGreatDoor

namespace Go.Proofs.YtalbehjjgdedcaaGreatDoor
open Go.RowKit Go.Lib
attribute [local go_sem ↓] Go.wp_at_zero Go.wp_at_succ

theorem is_tok (W : World) (x y : TokX) (hx : TokOk W x) (hy : RTokOk W y) (hm : x.m = y.m) :
    Calls Tryz.prog 14 #[.agg #[.int .u8 x.t.kind, .string x.t.name, .slice x.t.A x.t.m x.t.c, .string x.t.text, .int .i64 x.t.at_], .agg #[.int .u8 y.t.kind, .string y.t.name, .slice y.t.A y.t.m y.t.c, .string y.t.text, .int .i64 y.t.at_]] W
      fun e w' => e = .returned (.bool true) ∧ Fr (fun _ => False) W w' := by
  obtain ⟨a1, a2, a3, a4, a5, a6⟩ := hx
  obtain ⟨b1, b2, b3, b4, b5, L, b6, b7⟩ := hy
  have hk : y.t.kind = x.t.kind := by rw [b1, a1, hm]
  have hn : y.t.name = x.t.name := by rw [b2, a2, hm]
  have ht : y.t.text = x.t.text := by rw [b3, a3, hm]
  have ha : y.t.at_ = x.t.at_ := by rw [b4, a4, hm]
  have hl : y.t.m = x.t.m := by rw [b5, a5, hm]
  rw [hk, hn, ht, ha]
  rw [hl] at b6 ⊢
  exact is_true W _ _ _ _ _ _ _ _ _ _ L _ _ a6.rd b6.rd (fun k hk => a6.lt k hk) (fun k hk => b6.lt k hk) (by rw [b7, hm])

section
variable {w : World} {E : TypeId} {g off n cap : Nat}
/-- a token, stored over -/
theorem Own.zero5 {T : List TokV} (h : Own tokC w E (.slice (some ⟨g, off, none⟩) n cap) (some g) T) {i : Nat} (hi : i < T.length) :
    Own tokC (((((w.setCell ⟨g, off + i * 5, none⟩ (.int .u8 0)).setCell ⟨g, off + i * 5 + 1, none⟩ (.string ⟨#[]⟩)).setCell ⟨g, off + i * 5 + 2, none⟩ (.slice none 0 0)).setCell ⟨g, off + i * 5 + 3, none⟩ (.string ⟨#[]⟩)).setCell ⟨g, off + i * 5 + 4, none⟩ (.int .i64 0)) E
      (.slice (some ⟨g, off, none⟩) n cap) (some g) (T.set i ⟨0, ⟨#[]⟩, none, 0, 0, ⟨#[]⟩, 0⟩) := by
  have h0 := h.set1 (j := 0) hi (by decide) (u := .int .u8 0) (x' := { T[i] with kind := 0 }) (by rfl)
  have h1 := h0.set1 (i := i) (j := 1) (by simpa using hi) (by decide) (u := .string ⟨#[]⟩) (x' := { T[i] with kind := 0, name := ⟨#[]⟩ }) (by rw [List.getElem_set_self]; rfl)
  rw [List.set_set] at h1
  have h2 := h1.set1 (i := i) (j := 2) (by simpa using hi) (by decide) (u := .slice none 0 0) (x' := { T[i] with kind := 0, name := ⟨#[]⟩, A := none, m := 0, c := 0 }) (by rw [List.getElem_set_self]; rfl)
  rw [List.set_set] at h2
  have h3 := h2.set1 (i := i) (j := 3) (by simpa using hi) (by decide) (u := .string ⟨#[]⟩) (x' := { T[i] with kind := 0, name := ⟨#[]⟩, A := none, m := 0, c := 0, text := ⟨#[]⟩ }) (by rw [List.getElem_set_self]; rfl)
  rw [List.set_set] at h3
  have h4 := h3.set1 (i := i) (j := 4) (by simpa using hi) (by decide) (u := .int .i64 0) (x' := ⟨0, ⟨#[]⟩, none, 0, 0, ⟨#[]⟩, 0⟩) (by rw [List.getElem_set_self]; rfl)
  rw [List.set_set] at h4
  exact h4
/-- an attribute, stored over -/
theorem Own.zero2 {T : List (ByteArray × ByteArray)} (h : Own pairC w E (.slice (some ⟨g, off, none⟩) n cap) (some g) T) {i : Nat} (hi : i < T.length) :
    Own pairC ((w.setCell ⟨g, off + i * 2, none⟩ (.string ⟨#[]⟩)).setCell ⟨g, off + i * 2 + 1, none⟩ (.string ⟨#[]⟩)) E
      (.slice (some ⟨g, off, none⟩) n cap) (some g) (T.set i (⟨#[]⟩, ⟨#[]⟩)) := by
  have h0 := h.set1 (j := 0) hi (by decide) (u := .string ⟨#[]⟩) (x' := (⟨#[]⟩, T[i].2)) (by rfl)
  have h1 := h0.set1 (i := i) (j := 1) (by simpa using hi) (by decide) (u := .string ⟨#[]⟩) (x' := (⟨#[]⟩, ⟨#[]⟩)) (by rw [List.getElem_set_self]; rfl)
  rw [List.set_set] at h1
  exact h1
end
theorem fr5 (w : World) (g a b c d e : Nat) (u v x y z : Value) : Fr (fun k => k = g) w (((((w.setCell ⟨g, a, none⟩ u).setCell ⟨g, b, none⟩ v).setCell ⟨g, c, none⟩ x).setCell ⟨g, d, none⟩ y).setCell ⟨g, e, none⟩ z) :=
  ((((Fr.set_b w g a u).trans (Fr.set_b _ g b v)).trans (Fr.set_b _ g c x)).trans (Fr.set_b _ g d y)).trans (Fr.set_b _ g e z)
theorem fr2 (w : World) (g a b : Nat) (u v : Value) : Fr (fun k => k = g) w ((w.setCell ⟨g, a, none⟩ u).setCell ⟨g, b, none⟩ v) := (Fr.set_b w g a u).trans (Fr.set_b _ g b v)

/-- where the writing over stands: so many tokens are written over -/
structure CutI (w2 : World) (base : Nat) (v : Value) (o : Option Nat) (X : List TokX) (i : Nat) (wr : World) (T : List TokV) : Prop where
  own : Own tokC wr 33 v o T
  todo : T.drop i = (X.drop i).map (·.t)
  ok : ∀ x ∈ X.drop i, TokOk wr x
  fr : Fr (fun k => base ≤ k) w2 wr
/-- .. and so many attributes of the one at hand -/
structure CutA (w3 : World) (g : Nat) (wr : World) (v : Value) (P : List (ByteArray × ByteArray)) : Prop where
  own : Own pairC wr 38 v (some g) P
  fr : Fr (fun k => k = g) w3 wr

theorem TokX_attr {w : World} {x : TokX} (h : TokOk w x) : Own pairC w 38 (.slice x.t.A x.t.m x.t.c) x.oa (x.m.attrs.map toPair) := h.2.2.2.2.2
end Go.Proofs.YtalbehjjgdedcaaGreatDoor

namespace Go.Proofs.YtalbehjjgdedcaaGreatDoor
open Go.RowKit Go.Lib
attribute [local go_sem ↓] Go.wp_at_zero Go.wp_at_succ

theorem own_some {α : Type} {C : Cod α} {w : World} {E : TypeId} {A : Option Addr} {n c : Nat} {o : Option Nat} {l : List α} (h : Own C w E (.slice A n c) o l) (hp : 0 < l.length) :
    ∃ g off, A = some ⟨g, off, none⟩ ∧ o = some g ∧ n = l.length ∧ g < w.heap.size ∧ (∀ i, w.frozen? ⟨g, i, none⟩ = false) ∧ ∀ i (hi : i < l.length) j, j < C.size → w.cell? ⟨g, off + (i * C.size + j), none⟩ = (C.cells l[i])[j]? := by
  rcases h with ⟨A', h1, h2, h3⟩ | ⟨g, off, cap', cur, h1, h2, h3, h4⟩
  · subst h3; simp at hp
  · simp only [Value.slice.injEq] at h1
    obtain ⟨rfl, rfl, rfl⟩ := h1
    have h : Own C w E (.slice (some ⟨g, off, none⟩) l.length c) o l := .inr ⟨g, off, c, cur, rfl, h2, h3, h4⟩
    refine ⟨g, off, rfl, h2, rfl, (Array.getElem?_eq_some_iff.1 h3).1, fun i => frozen_of_row w g i cur E h3, fun i hi j hj => ?_⟩
    obtain ⟨g', off', cp, hv, -, -, -, hc⟩ := h.rd.at_ hi
    simp only [Value.slice.injEq, Option.some.injEq, Addr.mk.injEq] at hv
    obtain ⟨⟨rfl, rfl, -⟩, -⟩ := hv
    exact hc j hj

set_option maxRecDepth 100000 in
set_option maxHeartbeats 8000000 in
theorem cuts_round (s : ByteArray) (w : World) (TS : List Tok) (p : Nat) (er : Int) (hR : tokR s.data.toList = (TS, p, er)) (hbig : ¬ (800 < s.size ∧ s.size ≤ 65536)) (h63 : s.size ≤ 9223372036854775807)
    (HST : Hid (∀ W, Fr (fun _ => False) w W → St W)) :
    Calls Tryz.prog 3 #[.string s] w fun e w' => e = .returned (.bool true) ∧ Fr (fun _ => False) w w' := by
  obtain ⟨n, hn⟩ : ∃ n, TS.length = n := ⟨_, rfl⟩
  have HWK := hide (fun (W : World) (f : Fr (fun _ => False) w W) => works_any W (HST.out W f))
  have HRT := hide (show Calls Tryz.prog 12 #[.string s] w fun e w' => ∃ A c o X, e = .returned (.tuple #[.slice A n c, .int .i64 p, .int .i64 er]) ∧ RTokL w' w.heap.size (.slice A n c) o X ∧ X.map (·.m) = TS ∧ Fr (fun _ => False) w w' from
    (rtokens_any s w).mono fun e w' ⟨A, c, o, X, h1, h2, h3, h4⟩ => by
      rw [hR] at h1 h3
      have h3' : X.map (·.m) = TS := h3
      have hl : X.length = n := by rw [← hn, ← h3', List.length_map]
      rw [hl] at h1 h2
      exact ⟨A, c, o, X, h1, h2, h3, h4⟩)
  have HTK := hide (fun (W : World) (f : Fr (fun _ => False) w W) => show Calls Tryz.prog 13 #[.string s] W fun e w' => ∃ A c o X, e = .returned (.tuple #[.slice A n c, .int .i64 p, .int .i64 er]) ∧ TokL w' W.heap.size (.slice A n c) o X ∧ X.map (·.m) = TS ∧ Fr (fun _ => False) W w' from
    (tokens_any s W (HST.out W f)).mono fun e w' ⟨A, c, o, X, h1, h2, h3, h4⟩ => by
      rw [hR] at h1 h3
      have h3' : X.map (·.m) = TS := h3
      have hl : X.length = n := by rw [← hn, ← h3', List.length_map]
      rw [hl] at h1 h2
      exact ⟨A, c, o, X, h1, h2, h3, h4⟩)
  have HB1 := hide (fun W => blank_any s W h63)
  have HB2 := hide (fun W => rBlank_any s W h63)
  unfold blankAll at HB1
  generalize s.data.toList.all blankB = bl at *
  have HN := hide hn
  clear hR hn
  have hcase : ((¬ (800 : Int) < s.size) ∧ (s.size : Int) ≤ 800) ∨ ((800 : Int) < s.size ∧ ¬ (s.size : Int) ≤ 65536 ∧ (65536 : Int) < s.size) := by omega
  clear hbig
  rcases hcase with ⟨i1, i2⟩ | ⟨i1, i2, i3⟩
  all_goals
    go_enter Tryz.func3, Tryz.ntmps3
    go_wp2_with (go_at_call 12; refine HRT.out.mono ?_; rintro e w1 ⟨A', c', o', X', rfl, rl, hX', f1⟩; have RL := hide rl; have F1 := hide f1; have HX' := hide hX'; clear rl f1 hX')
    have hn63 : n ≤ 9223372036854775807 := by
      obtain ⟨A2, c2, hv, h5, h6⟩ := RL.out.own.form
      simp only [Value.slice.injEq] at hv
      unfold maxLen at h6
      omega
    go_loopw [6] (fun tv wr => ∃ t : Nat, tv = .int .i64 t ∧ t ≤ 2 ∧ Hid (Fr (fun _ => False) w1 wr)) (fun tv _ => 2 - (Go.RowKit.intOf tv).toNat)
    case atStart => exact ⟨0, rfl, by omega, hide (Fr.refl _ _)⟩
    case round =>
      obtain ⟨t, rfl, ht, hfr⟩ := hrel
      by_cases ht2 : t < 2
      · have hti : (t : Int) < 2 := by omega
        go_wp2_with (go_at_call 13; refine (HTK.out _ (F1.out.trans hfr.out)).mono ?_; rintro e w2 ⟨A, c, o, X, rfl, tl, hX, f2⟩; have TL := hide tl; have F2 := hide f2; have HX := hide hX; clear tl f2 hX)
        have hXn : X.length = n := by rw [← HN.out, ← HX.out, List.length_map]
        have hXn' : X'.length = n := by rw [← HN.out, ← HX'.out, List.length_map]
        have HL := hide (And.intro hXn hXn')
        have hbase := F1.out.size
        have hbase2 := hide hfr.out.size
        have HJ0 := hide (show CutI w2 wr.heap.size (.slice A n c) o X 0 w2 (X.map (·.t)) from ⟨TL.out.own, by simp, by simpa using TL.out.ok, Fr.refl _ _⟩)
        generalize hWR : wr = WR at *
        clear hWR hXn hXn' hbase
        go_loopw [10] (fun iv wr => ∃ (i : Nat) (T : List TokV), iv = .int .i64 i ∧ i ≤ n ∧ Hid (CutI w2 WR.heap.size (.slice A n c) o X i wr T)) (fun iv _ => n - (Go.RowKit.intOf iv).toNat)
        case atStart => exact ⟨0, _, rfl, Nat.zero_le _, HJ0⟩
        case round =>
          obtain ⟨i, T, rfl, hin, hJ⟩ := hrel
          by_cases hlt : i < n
          · have hii : (i : Int) < n := by omega
            have hTn : T.length = n := by
              obtain ⟨A2, c2, hv, -, -⟩ := hJ.out.own.form
              simp only [Value.slice.injEq] at hv
              exact hv.2.1.symm
            obtain ⟨hXn, hXn'⟩ := HL.out
            have hiT : i < T.length := by omega
            have hiX : i < X.length := by omega
            have hiX' : i < X'.length := by omega
            have hFX := hide (show Fr (fun _ => False) w1 wr from hfr.out.then_ (F2.out.then_ hJ.out.fr (fun k h1 h2 => by omega)) (fun k h1 h2 => h2))
            have hRL := hide (RL.out.frNew hFX.out (fun _ _ h => h))
            have hTX : T[i] = X[i].t := by
              have h1 := hJ.out.todo
              rw [List.drop_eq_getElem_cons hiT, List.drop_eq_getElem_cons hiX, List.map_cons] at h1
              injection h1
            have htodo : T.drop (i + 1) = (X.drop (i + 1)).map (·.t) := by
              have h1 := hJ.out.todo
              rw [List.drop_eq_getElem_cons hiT, List.drop_eq_getElem_cons hiX, List.map_cons] at h1
              injection h1
            have hxy : X[i].m = X'[i].m := by
              have h1 : X.map (·.m) = X'.map (·.m) := HX.out.trans HX'.out.symm
              have h2 : (X.map (·.m))[i]? = (X'.map (·.m))[i]? := by rw [h1]
              rw [List.getElem?_map, List.getElem?_map, List.getElem?_eq_getElem hiX, List.getElem?_eq_getElem hiX'] at h2
              exact Option.some.inj h2
            have hdx : X.drop i = X[i] :: X.drop (i + 1) := List.drop_eq_getElem_cons hiX
            have hxok := hJ.out.ok X[i] (by rw [hdx]; exact List.mem_cons_self ..)
            have hyok := hRL.out.ok X'[i] (List.getElem_mem hiX')
            have hrest : ∀ y ∈ X.drop (i + 1), TokOk wr y := fun y hy => hJ.out.ok y (by rw [hdx]; exact List.mem_cons_of_mem _ hy)
            have hap : ∀ y ∈ X.drop (i + 1), ∀ k, X[i].oa = some k → y.oa ≠ some k := by
              have h1 := TL.out.apart.drop (i := i)
              rw [hdx] at h1
              exact (List.pairwise_cons.1 h1).1
            have hnewx := TL.out.newa X[i] (List.getElem_mem hiX)
            have hnewr : ∀ y ∈ X.drop (i + 1), ∀ k, y.oa = some k → o ≠ some k := fun y hy k hk => (TL.out.newa y (List.mem_of_mem_drop hy) k hk).2.2
            have his := fun (W : World) (f : Fr (fun _ => False) wr W) => is_tok W X[i] X'[i] (hxok.fr f (fun _ _ h => h)) (hyok.fr f (fun _ _ h => h)) hxy
            obtain ⟨g, off, rfl, ho, -, hg, hfz, hc⟩ := own_some hJ.out.own (by omega)
            obtain ⟨g', off', rfl, ho', -, hg', -, hc'⟩ := own_some hRL.out.own (by rw [List.length_map]; omega)
            have q0 := hc i hiT 0 (by decide)
            have q1 := hc i hiT 1 (by decide)
            have q2 := hc i hiT 2 (by decide)
            have q3 := hc i hiT 3 (by decide)
            have q4 := hc i hiT 4 (by decide)
            have p0 := hc' i (by rw [List.length_map]; exact hiX') 0 (by decide)
            have p1 := hc' i (by rw [List.length_map]; exact hiX') 1 (by decide)
            have p2 := hc' i (by rw [List.length_map]; exact hiX') 2 (by decide)
            have p3 := hc' i (by rw [List.length_map]; exact hiX') 3 (by decide)
            have p4 := hc' i (by rw [List.length_map]; exact hiX') 4 (by decide)
            rw [hTX] at q0 q1 q2 q3 q4
            rw [List.getElem_map] at p0 p1 p2 p3 p4
            have hatt := TokX_attr hxok
            have HNR := hide hnewr
            have hTX2 := hide (And.intro hiT htodo)
            have hXR := hide hrest
            have hgnew := TL.out.new g ho
            clear hc hc' hTX hdx hxok hyok hrest hnewr hXn hXn' hTn htodo
            generalize hxx : X[i] = x at *
            generalize X'[i] = y at *
            clear hxx hxy hiX hiX'
            obtain ⟨⟨tk, tn, tA, tm, tc, tt, ta⟩, oa, xm⟩ := x
            obtain ⟨⟨uk, un, uA, um, uc, ut, ua⟩, ob, ym⟩ := y
            simp only [tokC, Nat.add_zero, List.getElem?_cons_zero, List.getElem?_cons_succ, ← Nat.add_assoc] at q0 q1 q2 q3 q4 p0 p1 p2 p3 p4
            simp only at his hatt hap hnewx
            have HIS := hide his
            have HAP := hide hap
            have hom : oa ≠ some g := fun e => (hnewx g e).2.2 ho
            have HO := hide (And.intro ho hom)
            have HNX := hide hnewx
            have HATT := hide hatt
            have HQ := hide (And.intro q0 (And.intro q1 (And.intro q2 (And.intro q3 q4))))
            have HP := hide (And.intro p0 (And.intro p1 (And.intro p2 (And.intro p3 p4))))
            have hii63 : (i : Int) < n := hii
            clear his hap hnewx hatt ho ho' hom hiT
            go_wp2_with fail
            go_region_held3 (fun w' => w'.cell? ⟨g, off + i * 5, none⟩ = some (.int .u8 tk) ∧ w'.cell? ⟨g, off + i * 5 + 1, none⟩ = some (.string tn) ∧ w'.cell? ⟨g, off + i * 5 + 2, none⟩ = some (.slice tA tm tc) ∧ w'.cell? ⟨g, off + i * 5 + 3, none⟩ = some (.string tt) ∧ w'.cell? ⟨g, off + i * 5 + 4, none⟩ = some (.int .i64 ta) ∧
                w'.cell? ⟨g', off' + i * 5, none⟩ = some (.int .u8 uk) ∧ w'.cell? ⟨g', off' + i * 5 + 1, none⟩ = some (.string un) ∧ w'.cell? ⟨g', off' + i * 5 + 2, none⟩ = some (.slice uA um uc) ∧ w'.cell? ⟨g', off' + i * 5 + 3, none⟩ = some (.string ut) ∧ w'.cell? ⟨g', off' + i * 5 + 4, none⟩ = some (.int .i64 ua))
              (first
                | exact ⟨(f4.cell hg (fun h => h)).trans HQ.out.1, (f4.cell hg (fun h => h)).trans HQ.out.2.1, (f4.cell hg (fun h => h)).trans HQ.out.2.2.1, (f4.cell hg (fun h => h)).trans HQ.out.2.2.2.1, (f4.cell hg (fun h => h)).trans HQ.out.2.2.2.2, (f4.cell hg' (fun h => h)).trans HP.out.1, (f4.cell hg' (fun h => h)).trans HP.out.2.1, (f4.cell hg' (fun h => h)).trans HP.out.2.2.1, (f4.cell hg' (fun h => h)).trans HP.out.2.2.2.1, (f4.cell hg' (fun h => h)).trans HP.out.2.2.2.2⟩
                | exact ⟨HQ.out.1, HQ.out.2.1, HQ.out.2.2.1, HQ.out.2.2.2.1, HQ.out.2.2.2.2, HP.out.1, HP.out.2.1, HP.out.2.2.1, HP.out.2.2.2.1, HP.out.2.2.2.2⟩)
              (first | (go_at_call 14; refine (HIS.out _ (Fr.drew (Fr.refl _ _))).mono ?_; rintro e w4 ⟨rfl, hf4⟩; have f4 : Fr (fun _ => False) wr w4 := (Fr.drew (Fr.refl _ _)).trans hf4))
            go_wp2_with fail
            clear q0 q1 q2 q3 q4 p0 p1 p2 p3 p4
            have htm : tm ≤ 9223372036854775807 := by
              obtain ⟨A2, c2, hv, h5, h6⟩ := HATT.out.form
              simp only [Value.slice.injEq] at hv
              unfold maxLen at h6
              omega
            have HJ4 := hide (And.intro (HATT.out.fr f4 (fun _ _ h => h)) (Fr.refl (fun k => oa = some k) w4))
            have F4 := hide f4
            clear f4
            generalize hW3 : wr = W3 at *
            clear hW3
            go_loopw [11] (fun jv wr => ∃ (j : Nat) (P : List (ByteArray × ByteArray)), jv = .int .i64 j ∧ j ≤ tm ∧ Hid (Own pairC wr 38 (.slice tA tm tc) oa P ∧ Fr (fun k => oa = some k) w4 wr)) (fun jv _ => tm - (Go.RowKit.intOf jv).toNat)
            case atStart => exact ⟨0, _, rfl, Nat.zero_le _, HJ4⟩
            case round =>
              obtain ⟨j, P, rfl, hjm, hA⟩ := hrel
              have hg4 : g < w4.heap.size := Nat.lt_of_lt_of_le hg F4.out.size
              have hng : ¬ oa = some g := HO.out.2
              have hgw : g < wr.heap.size := Nat.lt_of_lt_of_le hg4 hA.out.2.size
              have q2 := (hA.out.2.cell (p := ⟨g, off + i * 5 + 2, none⟩) hg4 hng).trans ((F4.out.cell (p := ⟨g, off + i * 5 + 2, none⟩) hg (fun h => h)).trans HQ.out.2.2.1)
              by_cases hjt : j < tm
              · have hji : (j : Int) < tm := by omega
                have hPn : P.length = tm := by
                  obtain ⟨A2, c2, hv, -, -⟩ := hA.out.1.form
                  simp only [Value.slice.injEq] at hv
                  exact hv.2.1.symm
                have hjP : j < P.length := by omega
                obtain ⟨ga, offa, rfl, hoa, -, hga, hfza, hca⟩ := own_some hA.out.1 (by omega)
                have a0 := hca j hjP 0 (by decide)
                have a1 := hca j hjP 1 (by decide)
                generalize P[j] = z at *
                obtain ⟨zx, zy⟩ := z
                simp only [pairC, Nat.add_zero, List.getElem?_cons_zero, List.getElem?_cons_succ, ← Nat.add_assoc] at a0 a1
                have hb1 := hA.out.1
                rw [hoa] at hb1
                have hb2 := hide (hb1.zero2 hjP)
                have hgg : ¬ ga = g := fun e => hng (by rw [hoa, e])
                have hgg' : ¬ g = ga := fun e => hgg e.symm
                have HOA := hide hoa
                clear hca hPn hb1 hjP hoa hng
                go_wp2_with fail
                go_roundw
                case rel =>
                  refine ⟨j + 1, P.set j (⟨#[]⟩, ⟨#[]⟩), by go_num, by omega, hide ⟨by rw [HOA.out]; exact hb2.out, hA.out.2.trans ((fr2 wr ga _ _ _ _).mono (fun k hk => by rw [HOA.out, hk]))⟩⟩
                case measure => simp [Go.RowKit.intOf]; omega
              · obtain rfl : j = tm := by omega
                have q0 := (hA.out.2.cell (p := ⟨g, off + i * 5, none⟩) hg4 hng).trans ((F4.out.cell (p := ⟨g, off + i * 5, none⟩) hg (fun h => h)).trans HQ.out.1)
                have q1 := (hA.out.2.cell (p := ⟨g, off + i * 5 + 1, none⟩) hg4 hng).trans ((F4.out.cell (p := ⟨g, off + i * 5 + 1, none⟩) hg (fun h => h)).trans HQ.out.2.1)
                have q3 := (hA.out.2.cell (p := ⟨g, off + i * 5 + 3, none⟩) hg4 hng).trans ((F4.out.cell (p := ⟨g, off + i * 5 + 3, none⟩) hg (fun h => h)).trans HQ.out.2.2.2.1)
                have q4 := (hA.out.2.cell (p := ⟨g, off + i * 5 + 4, none⟩) hg4 hng).trans ((F4.out.cell (p := ⟨g, off + i * 5 + 4, none⟩) hg (fun h => h)).trans HQ.out.2.2.2.2)
                have hfzw : ∀ i, wr.frozen? ⟨g, i, none⟩ = false := fun i => (hA.out.2.frozen (p := ⟨g, i, none⟩) hg4 hng).trans ((F4.out.frozen (p := ⟨g, i, none⟩) hg (fun h => h)).trans (hfz i))
                have ho := HO.out.1
                have hown := (hJ.out.own.fr F4.out (fun _ _ h => h)).fr hA.out.2 (fun k hk e => hng (by rw [e, ← hk, ho]))
                go_wp2_with fail
                go_roundw
                case rel =>
                  have hb := hown
                  rw [ho] at hb
                  have hz := hb.zero5 hTX2.out.1
                  have f5 := fr5 wr g (off + i * 5) (off + i * 5 + 1) (off + i * 5 + 2) (off + i * 5 + 3) (off + i * 5 + 4) (.int .u8 0) (.string ⟨#[]⟩) (.slice none 0 0) (.string ⟨#[]⟩) (.int .i64 0)
                  refine ⟨i + 1, T.set i ⟨0, ⟨#[]⟩, none, 0, 0, ⟨#[]⟩, 0⟩, by go_num, by omega, hide ⟨by rw [ho]; exact hz, ?_, fun y hy => ?_, ?_⟩⟩
                  · rw [List.drop_set_of_lt (by omega)]
                    exact hTX2.out.2
                  · exact (((hXR.out y hy).fr F4.out (fun _ _ h => h)).fr hA.out.2 (fun k hk e => HAP.out y hy k e hk)).fr f5 (fun k hk e => HNR.out y hy k hk (by rw [ho, e]))
                  · exact ((hJ.out.fr.trans (F4.out.mono (fun _ h => h.elim))).then_ hA.out.2 (fun k h1 h2 => (HNX.out k h2).1)).then_ f5 (fun k h1 h2 => by rw [h2]; exact hgnew.1)
                case measure => simp [Go.RowKit.intOf]; omega
          · obtain rfl : i = n := by omega
            go_wp2_with fail
            go_roundw
            case rel => exact ⟨t + 1, by go_num, by omega, hide (hfr.out.then_ (F2.out.then_ hJ.out.fr (fun k h1 h2 => by omega)) (fun k h1 h2 => h2))⟩
            case measure => simp [Go.RowKit.intOf]; omega
      · obtain rfl : t = 2 := by omega
        go_wp2_with (first
          | (go_at_call 15; refine (HB1.out _).mono ?_; rintro e w3 ⟨rfl, f3⟩)
          | (go_at_call 16; refine (HB2.out _).mono ?_; rintro e w4 ⟨rfl, rfl⟩)
          | (go_at_call 11; refine (HWK.out _ ((F1.out.trans hfr.out).trans f3)).mono ?_; rintro e w5 ⟨rfl, f5⟩))
        go_returns
        exact ⟨by simp, ((F1.out.trans hfr.out).trans f3).trans f5⟩

theorem tokenCuts_any (s : ByteArray) (w : World) (hst : St w) (h63 : s.size ≤ 9223372036854775807) :
    Calls Tryz.prog 3 #[.string s] w fun e w' => e = .returned (.bool true) ∧ Fr (fun _ => False) w w' := by
  have HST := hide (fun (W : World) (f : Fr (fun _ => False) w W) => hst.same f)
  by_cases hbig : 800 < s.size ∧ s.size ≤ 65536
  · have i1 : (800 : Int) < s.size := by omega
    have i2 : (s.size : Int) ≤ 65536 := by omega
    clear hbig hst
    go_enter Tryz.func3, Tryz.ntmps3
    go_wp2_with (go_at_call 11; refine (works_any _ (HST.out _ (Fr.refl _ _))).mono ?_; rintro e w5 ⟨rfl, f5⟩)
    go_returns
    exact ⟨rfl, f5⟩
  · exact cuts_round s w (tokR s.data.toList).1 (tokR s.data.toList).2.1 (tokR s.data.toList).2.2 rfl hbig h63 HST
end Go.Proofs.YtalbehjjgdedcaaGreatDoor
