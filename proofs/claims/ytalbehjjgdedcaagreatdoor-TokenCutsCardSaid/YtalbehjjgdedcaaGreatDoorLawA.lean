/- the law's is: two tokens that are the same. -/
import Derived.Test.YtalbehjjgdedcaaGreatDoorRtkF
namespace Go.Proofs.YtalbehjjgdedcaaGreatDoor
open Go.RowKit Go.Lib
attribute [local go_sem ↓] Go.wp_at_zero Go.wp_at_succ

theorem Rd.len_eq {α : Type} {C : Cod α} {w : World} {S : Nat → Prop} {A : Option Addr} {m c : Nat} {l : List α} (h : Rd C w S (.slice A m c) l) : l.length = m ∧ m ≤ 9223372036854775807 := by
  obtain ⟨A', c', hv, h1, h2, -, -⟩ := h
  simp only [Value.slice.injEq] at hv
  unfold maxLen at h2
  omega

set_option maxRecDepth 100000 in
set_option maxHeartbeats 4000000 in
theorem is_true (w : World) (kd : Int) (nm tx : ByteArray) (ta : Int) (A B : Option Addr) (m c c' : Nat) (La : List (ByteArray × ByteArray)) (Lb : List RawV) (S S' : Nat → Prop) (ha : Rd pairC w S (.slice A m c) La) (hb : Rd rawC w S' (.slice B m c') Lb)
    (hS : ∀ k, S k → k < w.heap.size) (hS' : ∀ k, S' k → k < w.heap.size) (h : Lb.map nv = La) :
    Calls Tryz.prog 14 #[.agg #[.int .u8 kd, .string nm, .slice A m c, .string tx, .int .i64 ta], .agg #[.int .u8 kd, .string nm, .slice B m c', .string tx, .int .i64 ta]] w
      fun e w' => e = .returned (.bool true) ∧ Fr (fun _ => False) w w' := by
  obtain ⟨hla, hm63⟩ := ha.len_eq
  have hlb := hb.len_eq.1
  have hf0 : Fr (fun _ => False) w ((w.alloc (.cells #[.int .u8 kd, .string nm, .slice A m c, .string tx, .int .i64 ta] 33)).alloc (.cells #[.int .u8 kd, .string nm, .slice B m c', .string tx, .int .i64 ta] 36)) := Fr.alloc (Fr.alloc (Fr.refl _ _) _) _
  have ht : TokAt ((w.alloc (.cells #[.int .u8 kd, .string nm, .slice A m c, .string tx, .int .i64 ta] 33)).alloc (.cells #[.int .u8 kd, .string nm, .slice B m c', .string tx, .int .i64 ta] 36)) w.heap.size kd nm (.slice A m c) tx ta := by
    refine ⟨?_⟩
    rw [Below.heap_alloc _ _ _ (by simp)]
    exact heap_alloc_new w _
  have hr : RTokAt ((w.alloc (.cells #[.int .u8 kd, .string nm, .slice A m c, .string tx, .int .i64 ta] 33)).alloc (.cells #[.int .u8 kd, .string nm, .slice B m c', .string tx, .int .i64 ta] 36)) (w.heap.size + 1) kd nm (.slice B m c') tx ta := by
    refine ⟨?_⟩
    have := heap_alloc_new (w.alloc (.cells #[.int .u8 kd, .string nm, .slice A m c, .string tx, .int .i64 ta] 33)) (.cells #[.int .u8 kd, .string nm, .slice B m c', .string tx, .int .i64 ta] 36)
    simpa using this
  have HF0 := hide hf0
  have HT := hide ht
  have HR := hide hr
  have HA := hide (ha.fr hf0 (fun k hk => ⟨hS k hk, fun h => h⟩))
  have HB := hide (hb.fr hf0 (fun k hk => ⟨hS' k hk, fun h => h⟩))
  have HSS := hide (fun k hk => Nat.lt_of_lt_of_le (hS k hk) hf0.size)
  have HSS' := hide (fun k hk => Nat.lt_of_lt_of_le (hS' k hk) hf0.size)
  have HLA := hide hla
  have HLB := hide hlb
  have HH := hide h
  clear hS hS' ha hb hla hlb h hf0
  obtain ⟨z0, z1, z2, z3, z4, -⟩ := ht.facts
  obtain ⟨y0, y1, y2, y3, y4, -⟩ := hr.facts
  clear ht hr
  go_enter Tryz.func14, Tryz.ntmps14
  go_wp2_with fail
  go_loopw [5] (fun i wr => ∃ k : Nat, i = .int .i64 k ∧ k ≤ m ∧ Hid (Fr (fun _ => False) ((w.alloc (.cells #[.int .u8 kd, .string nm, .slice A m c, .string tx, .int .i64 ta] 33)).alloc (.cells #[.int .u8 kd, .string nm, .slice B m c', .string tx, .int .i64 ta] 36)) wr)) (fun i _ => m - (Go.RowKit.intOf i).toNat)
  case atStart => exact ⟨0, rfl, Nat.zero_le _, hide (Fr.refl _ _)⟩
  case round =>
    obtain ⟨k, rfl, hk, hfr⟩ := hrel
    clear z0 z1 z2 z3 z4 y0 y1 y2 y3 y4
    obtain ⟨z0, z1, z2, z3, z4, -⟩ := (HT.out.fr hfr.out (fun h => h)).facts
    obtain ⟨y0, y1, y2, y3, y4, -⟩ := (HR.out.fr hfr.out (fun h => h)).facts
    by_cases hlt : k < m
    · have hki : (k : Int) < m := by omega
      have hka : k < La.length := by rw [HLA.out]; exact hlt
      have hkb : k < Lb.length := by rw [HLB.out]; exact hlt
      obtain ⟨g, off, cp, hv, -, -, hg, hc⟩ := (HA.out.fr hfr.out (fun k hk => ⟨HSS.out k hk, fun h => h⟩)).at_ hka
      obtain ⟨g', off', cp', hv', -, -, hg', hc'⟩ := (HB.out.fr hfr.out (fun k hk => ⟨HSS'.out k hk, fun h => h⟩)).at_ hkb
      have hpair : La[k] = nv Lb[k] := by
        have h1 := HH.out
        subst h1
        rw [List.getElem_map]
      simp only [Value.slice.injEq] at hv hv'
      obtain ⟨rfl, -, rfl⟩ := hv
      obtain ⟨rfl, -, rfl⟩ := hv'
      have q0 := hc 0 (by decide)
      have q1 := hc 1 (by decide)
      have p0 := hc' 0 (by decide)
      have p1 := hc' 1 (by decide)
      rw [hpair] at q0 q1
      generalize Lb[k] = x at *
      obtain ⟨xn, xv, xa⟩ := x
      simp only [pairC, rawC, nv, Nat.add_zero, List.getElem?_cons_zero, List.getElem?_cons_succ, ← Nat.add_assoc] at q0 q1 p0 p1
      clear hc hc' hpair hka hkb
      go_wp2_with fail
      go_quiet (fail)
      go_wp2_with fail
      go_roundw
      case rel => exact ⟨k + 1, by go_num, by omega, hide (Fr.drewN hfr.out _)⟩
      case measure => simp [Go.RowKit.intOf]; omega
    · obtain rfl : k = m := by omega
      go_wp2_with fail
      go_returns
      exact ⟨rfl, HF0.out.trans hfr.out⟩
end Go.Proofs.YtalbehjjgdedcaaGreatDoor
