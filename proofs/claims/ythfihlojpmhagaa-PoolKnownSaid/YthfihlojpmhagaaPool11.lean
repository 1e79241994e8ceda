/- The reference's pool, on. -/
import Derived.Test.YthfihlojpmhagaaPool10
namespace Go.Proofs.Ythfihlojpmhagaa
open Go.RowKit
attribute [local go_sem ↓] Go.wp_at_zero Go.wp_at_succ

set_option maxHeartbeats 1000000 in
theorem rrecall_any (b : Nat) (s : PSt) (F : Nat → Prop) (w : World) (h : PoolAt 61 63 w b s F) (ht : s.tot ≤ 1000000) :
    Calls Try.prog 30 #[.pointer (some ⟨b, 0, none⟩)] w fun e w' => e = .returned (.int .i64 ((s.L 2).length : Nat)) ∧
      PoolPost 61 63 b s.recall F w w' := by
  have l1 := s.le_tot (i := 1) (by omega)
  have l2 := s.le_tot (i := 2) (by omega)
  obtain ⟨vs, os, h, hF⟩ := h
  have H := hide h
  have HF := hide hF
  obtain ⟨A1, c1, e1, -, -⟩ := (h.own 1 (by omega)).form
  obtain ⟨A2, c2, e2, -, -⟩ := (h.own 2 (by omega)).form
  have k2 := h.cell (i := 1) (by omega)
  have k3 := h.cell (i := 2) (by omega)
  simp only [Nat.reduceAdd] at k2 k3
  have hbs := h.lt
  have r1 := (h.own 1 (by omega)).rd
  have r2 := (h.own 2 (by omega)).rd
  have t1 := (h.own 1 (by omega)).lt
  rw [e1] at k2 r1; rw [e2] at k3 r2
  have HR1 := hide r1
  have HR2 := hide r2
  have HT1 := hide t1
  have HK := hide (And.intro k2 k3)
  clear h e1 e2 hF r1 r2 t1
  go_enter Try.func30, Try.ntmps30
  go_wp2_with (first
    | (at_builtin; refine wpList_append_Own rfl rfl el_rev (by rfl) (by rfl) M1.out.1 (HR1.out.fr F1.out (fun k hk => ⟨HT1.out k hk, fun h => h⟩)) (by (try simp); omega) ?_; intro B2 d2 w2 o2 m2 g2 n2
       have hno : ∀ k, o2 = some k → w.heap.size ≤ k := fun k hk => by
         rcases n2 k hk with h1 | h1
         · rcases M1.out.2 k h1 with h2 | h2
           · cases h2
           · exact h2.1
         · exact Nat.le_trans F1.out.size h1.1
       have hno1 : ∀ k, o1 = some k → w.heap.size ≤ k := fun k hk => by
         rcases M1.out.2 k hk with h2 | h2
         · cases h2
         · exact h2.1
       have f2 : Fr (fun _ => False) w w2 := F1.out.then_ g2 (fun k hk e => by have := hno1 k e; omega)
       have x2 := (f2.cell (p := ⟨b, 2, none⟩) hbs (fun h => h)).trans HK.out.1
       have x3 := (f2.cell (p := ⟨b, 3, none⟩) hbs (fun h => h)).trans HK.out.2
       have z2 := (f2.frozen (p := ⟨b, 2, none⟩) hbs (fun h => h)).trans (H.out.frozen 2)
       have z3 := (f2.frozen (p := ⟨b, 3, none⟩) hbs (fun h => h)).trans (H.out.frozen 3)
       have F2 := hide f2
       have M2 := hide (And.intro m2 hno)
       clear f2 m2 hno hno1 g2 n2)
    | (at_builtin; refine wpList_append_Own rfl rfl el_rev (by rfl) (by rfl) (Own.nil_ evC w _ none) HR2.out (by (try simp); omega) ?_; intro B1 d1 w1 o1 m1 g1 n1
       have f1 : Fr (fun _ => False) w w1 := g1.mono fun k hk => by cases hk
       have y2 := (f1.cell (p := ⟨b, 2, none⟩) hbs (fun h => h)).trans HK.out.1
       have hb1 : b < w1.heap.size := Nat.lt_of_lt_of_le hbs f1.size
       have F1 := hide f1
       have M1 := hide (And.intro m1 n1)
       simp only [List.nil_append, List.length_nil, Nat.zero_add] at M1
       clear g1 f1 n1 m1))
  go_ret
  refine ⟨rfl, ?_⟩
  have p1 := H.out.upd_ (i := 1) (by omega) (by decide) (F2.out.mono fun _ h => h.elim) M2.out.1 (fun k hk => .inr (M2.out.2 k hk))
  have p2 := p1.upd_ (i := 2) (by omega) (by decide) (Fr.refl _ _) (Own.nil_ evC _ _ none) (fun k hk => by cases hk)
  refine p2.post HF.out.1 (fun i hi k hk => ?_) (Fr.setCell (Fr.setCell (F2.out.mono fun _ h => h.elim) (.inl HF.out.1) _) (.inl HF.out.1) _)
  by_cases h2 : i = 2
  · subst h2
    rw [upd_same] at hk
    cases hk
  · rw [upd_other _ _ h2] at hk
    by_cases h1 : i = 1
    · subst h1
      rw [upd_same] at hk
      exact .inr (M2.out.2 k hk)
    · rw [upd_other _ _ h1] at hk
      exact .inl (HF.out.2.1 i hi k hk)

def rMakes (w : World) (l : List Ev) (e : Ending) (w' : World) : Prop :=
  ∃ A cap o, e = .returned (.slice A l.length cap) ∧ Own evC w' 63 (.slice A l.length cap) o l ∧ Fr (fun _ => False) w w' ∧ (∀ k, o = some k → w.heap.size ≤ k)

theorem without_snoc (kd pl : Int) (l : List Ev) (k : Nat) (h : k < l.length) : without kd pl (l.take (k + 1)) = without kd pl (l.take k) ++ (if isOf kd pl l[k] then [] else [l[k]]) := by
  unfold without
  rw [List.take_add_one, List.getElem?_eq_getElem h, Option.toList_some, List.filter_append, List.filter_cons]
  cases isOf kd pl l[k] <;> simp

set_option maxHeartbeats 1000000 in
theorem rwithout_any (kd pl : Int) (S : Nat → Prop) (v : Value) (l : List Ev) (w : World) (h : Rd evC w S v l) (hS : ∀ k, S k → k < w.heap.size) (hl : l.length ≤ 1000000) :
    Calls Try.prog 42 #[v, .int .u8 kd, .int .i64 pl] w (rMakes w (without kd pl l)) := by
  have H := hide h
  have HS := hide hS
  obtain ⟨A, cap, rfl, hlc, hcm, -⟩ := h
  clear hS hcm
  go_enter Try.func42, Try.ntmps42
  go_wp2_with fail
  go_loopw [7, 8] (fun v i wr => ∃ (k : Nat) (A : Option Addr) (cap : Nat) (o : Option Nat), k ≤ l.length ∧ i = .int .i64 k ∧ v = .slice A (without kd pl (l.take k)).length cap ∧ Hid (Own evC wr 63 (.slice A (without kd pl (l.take k)).length cap) o (without kd pl (l.take k)) ∧ (∀ x, o = some x → w.heap.size ≤ x)) ∧ Hid (Fr (fun _ => False) w wr)) (fun _ i _ => l.length - (intOf i).toNat)
  case atStart => exact ⟨0, none, 0, none, Nat.zero_le _, rfl, rfl, ⟨Own.nil_ _ _ _ none, fun _ h => by cases h⟩, Fr.refl _ _⟩
  case round =>
    obtain ⟨k, B, cb, o, hk, rfl, rfl, hm, hfr⟩ := hrel
    by_cases hlt : k < l.length
    · obtain ⟨g, off, cap', hv, -, -, hg, hc⟩ := H.out.at_ hlt
      simp only [Value.slice.injEq, true_and] at hv
      obtain ⟨rfl, rfl⟩ := hv
      have hgw := HS.out g hg
      have q0 := (hfr.out.cell (p := ⟨g, off + (k * 4 + 0), none⟩) hgw (fun h => h)).trans (hc 0 (by decide))
      have q1 := (hfr.out.cell (p := ⟨g, off + (k * 4 + 1), none⟩) hgw (fun h => h)).trans (hc 1 (by decide))
      have q2 := (hfr.out.cell (p := ⟨g, off + (k * 4 + 2), none⟩) hgw (fun h => h)).trans (hc 2 (by decide))
      have q3 := (hfr.out.cell (p := ⟨g, off + (k * 4 + 3), none⟩) hgw (fun h => h)).trans (hc 3 (by decide))
      have HW := hide (without_snoc kd pl l k hlt)
      have hle := without_le kd pl (l.take k)
      rw [List.length_take] at hle
      have hle' : (without kd pl (l.take k)).length ≤ k := by omega
      generalize l[k] = x at *
      obtain ⟨ek, en, ea, et⟩ := x
      simp only [evC, Nat.add_zero, List.getElem?_cons_zero, List.getElem?_cons_succ, ← Nat.add_assoc] at q0 q1 q2 q3
      have n1 : (ek != kd) = !decide (ek = kd) := rfl
      have n2 : (et != pl) = !decide (et = pl) := rfl
      have HO := hide (show isOf kd pl ⟨ek, en, ea, et⟩ = (decide (ek = kd) && decide (et = pl)) from rfl)
      generalize decide (ek = kd) = d1 at *
      generalize decide (et = pl) = d2 at *
      generalize without kd pl (l.take k) = m at *
      have hgr : g < wr.heap.size := Nat.lt_of_lt_of_le hgw hfr.out.size
      clear hc hle
      cases d1 <;> cases d2
      all_goals simp only [Bool.not_true, Bool.not_false] at n1 n2
      all_goals
        go_wp2_with (at_builtin; refine wpList_append_Own rfl rfl el_rev (by rfl) (by rfl) (hm.out.1.fr (Fr.alloc (Fr.refl (fun _ => False) wr) _) (fun _ _ h => h)) (rd_one wr _ ek en ea et) (by (try simp); omega) ?_; intro B1 d1 w1 o1 m1 g1 n1')
        go_roundw
        case rel =>
          have hw := HW.out
          rw [HO.out] at hw
          simp only [Bool.and_self, Bool.and_false, Bool.false_and, Bool.false_eq_true, ite_false, ite_true, List.append_nil] at hw
          first
            | exact ⟨k + 1, B, cb, o, by omega, by go_num, by rw [hw], by rw [hw]; exact hm.out, hfr.out⟩
            | (refine ⟨k + 1, B1, d1, o1, by omega, by go_num, by rw [hw]; simp, ⟨by rw [hw]; simpa using m1, fun x hx => ?_⟩, ?_⟩
               · rcases n1' x hx with h1 | h1
                 · exact hm.out.2 x h1
                 · have := h1.1; have := hfr.out.size; simp at *; omega
               · exact (hfr.out.alloc _).then_ g1 (fun x hx e => by have := hm.out.2 x e; omega))
        case measure => simp [intOf]; omega
    · obtain rfl : k = l.length := by omega
      rw [List.take_of_length_le (Nat.le_refl _)] at *
      go_wp2_with fail
      go_ret
      exact ⟨B, cb, o, rfl, hm.out.1, hfr.out, hm.out.2⟩
end Go.Proofs.Ythfihlojpmhagaa
