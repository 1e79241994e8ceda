/- The pool: Gone. -/
import Derived.Test.YthfihlojpmhagaaPool7
namespace Go.Proofs.Ythfihlojpmhagaa
open Go.RowKit
attribute [local go_sem ↓] Go.wp_at_zero Go.wp_at_succ

def without (kd pl : Int) (l : List Ev) : List Ev := l.filter fun x => !isOf kd pl x
def PSt.drop (s : PSt) (kd pl : Int) : PSt := ⟨s.room, fun i => without kd pl (s.L i)⟩
def PSt.gone (s : PSt) (kd pl : Int) : Int × PSt := if kd = 1 ∨ kd = 3 then ((s.tot : Int) - ((s.drop kd pl).tot : Int), s.drop kd pl) else (0, s)
theorem without_le (kd pl : Int) (l : List Ev) : (without kd pl l).length ≤ l.length := List.length_filter_le _ _
theorem PSt.drop_le (s : PSt) (kd pl : Int) : (s.drop kd pl).tot ≤ s.tot := by
  unfold PSt.tot PSt.drop
  have := without_le kd pl (s.L 0)
  have := without_le kd pl (s.L 1)
  have := without_le kd pl (s.L 2)
  simp only
  omega

/-- rows below i are done -/
def PSt.goneTo (s : PSt) (kd pl : Int) (i : Nat) : PSt := ⟨s.room, fun j => if j < i then without kd pl (s.L j) else s.L j⟩

set_option maxHeartbeats 1000000 in
theorem gone_no (b : Nat) (s : PSt) (F : Nat → Prop) (kd pl : Int) (w : World) (h : PoolAt 59 31 w b s F) (hk : ¬ (kd = 1 ∨ kd = 3)) :
    Calls Try.prog 23 #[.pointer (some ⟨b, 0, none⟩), .int .u8 kd, .int .i64 pl] w fun e w' => e = .returned (.int .i64 0) ∧ PoolPost 59 31 b s F w w' := by
  have H := hide h
  have k1 : (kd != 1) = true := by simp; omega
  have k3 : (kd != 3) = true := by simp; omega
  clear h hk
  go_enter Try.func23, Try.ntmps23
  go_wp2_with fail
  go_ret
  exact ⟨rfl, H.out.post (Fr.alloc (Fr.alloc (Fr.refl _ _) _) _)⟩

/-- while rows are gone through: those below i are done -/
structure GoneR (b : Nat) (s : PSt) (F : Nat → Prop) (kd pl : Int) (w : World) (i : Nat) (wr : World) (vs : Nat → Value) (os : Nat → Option Nat) : Prop where
  pool : PoolR 59 31 wr b (s.goneTo kd pl i) vs os
  c1 : wr.cell? ⟨w.heap.size, 0, none⟩ = some (.int .u8 kd)
  c2 : wr.cell? ⟨w.heap.size + 1, 0, none⟩ = some (.int .i64 pl)
  ne : ∀ j, j < 3 → os j ≠ some w.heap.size ∧ os j ≠ some (w.heap.size + 1)
  inF : ∀ j, j < 3 → ∀ k, os j = some k → F k
  bw : b < w.heap.size
  bF : F b
  Fw : ∀ k, F k → k < w.heap.size
  fr : Fr F w wr
def GoneInv (b : Nat) (s : PSt) (F : Nat → Prop) (kd pl : Int) (w : World) (i : Nat) (wr : World) : Prop := ∃ vs os, GoneR b s F kd pl w i wr vs os

theorem goneTo_upd (s : PSt) (kd pl : Int) {i : Nat} (hi : i < 3) : (⟨s.room, upd (s.goneTo kd pl i).L i (without kd pl (s.L i))⟩ : PSt) = s.goneTo kd pl (i + 1) := by
  unfold PSt.goneTo
  congr 1
  funext j
  simp only [upd]
  by_cases h1 : j = i
  · subst h1; simp
  · rw [if_neg h1]
    by_cases h2 : j < i
    · rw [if_pos h2, if_pos (by omega)]
    · rw [if_neg h2, if_neg (by omega)]

theorem GoneR.step {b : Nat} {s : PSt} {F : Nat → Prop} {kd pl : Int} {w wr w1 : World} {i : Nat} {vs : Nat → Value} {os : Nat → Option Nat} (h : GoneR b s F kd pl w i wr vs os) (hi : i < 3) {v' : Value} {o' : Option Nat}
    (hown : Own evC w1 31 v' o' (without kd pl (s.L i))) (ho : o' = none ∨ o' = os i) (hf : Fr (fun k => os i = some k) wr w1) :
    GoneInv b s F kd pl w (i + 1) (w1.setCell ⟨b, 1 + i, none⟩ v') := by
  have p := h.pool.upd_ hi (by decide) hf hown (fun k hk => .inl (by
    rcases ho with h1 | h1
    · rw [h1] at hk; cases hk
    · rw [h1] at hk; exact hk))
  have e := goneTo_upd s kd pl hi
  have hw1 : w.heap.size < wr.heap.size := World.block_lt_of_cell? wr _ h.c1
  have hw2 : w.heap.size + 1 < wr.heap.size := World.block_lt_of_cell? wr _ h.c2
  have hos : ∀ j, j < 3 → ∀ k, upd os i o' j = some k → os j = some k := fun j hj k hk => by
    by_cases hji : j = i
    · subst hji
      rw [upd_same] at hk
      rcases ho with h1 | h1
      · rw [h1] at hk; cases hk
      · rw [h1] at hk; exact hk
    · rw [upd_other _ _ hji] at hk; exact hk
  have hb := h.bw
  refine ⟨_, _, ⟨by rw [← e]; exact p, ?_, ?_, fun j hj => ⟨fun hk => (h.ne j hj).1 (hos j hj _ hk), fun hk => (h.ne j hj).2 (hos j hj _ hk)⟩, fun j hj k hk => h.inF j hj k (hos j hj k hk), h.bw, h.bF, h.Fw,
    h.fr.trans (Fr.setCell (hf.mono fun k hk => h.inF i hi k hk) (.inl h.bF) _)⟩⟩
  · rw [World.cell?_setCell_other _ _ _ _ (by intro e; injection e with e; omega)]
    exact (hf.cell (p := ⟨w.heap.size, 0, none⟩) hw1 (h.ne i hi).1).trans h.c1
  · rw [World.cell?_setCell_other _ _ _ _ (by intro e; injection e with e; omega)]
    exact (hf.cell (p := ⟨w.heap.size + 1, 0, none⟩) hw2 (h.ne i hi).2).trans h.c2

set_option maxHeartbeats 2000000 in
theorem gone_yes (b : Nat) (s : PSt) (F : Nat → Prop) (kd pl : Int) (w : World) (h : PoolAt 59 31 w b s F) (ht : s.tot ≤ 1000000) (hk : kd = 1 ∨ kd = 3) :
    Calls Try.prog 23 #[.pointer (some ⟨b, 0, none⟩), .int .u8 kd, .int .i64 pl] w fun e w' => e = .returned (.int .i64 ((s.tot : Int) - ((s.drop kd pl).tot : Int))) ∧ PoolPost 59 31 b (s.drop kd pl) F w w' := by
  have hdl := s.drop_le kd pl
  have hI0 : GoneInv b s F kd pl w 0 ((w.alloc (.cells #[.int .u8 kd] 5)).alloc (.cells #[.int .i64 pl] 3)) := by
    have f : Fr (fun _ => False) w ((w.alloc (.cells #[.int .u8 kd] 5)).alloc (.cells #[.int .i64 pl] 3)) := Fr.alloc (Fr.alloc (Fr.refl _ _) _) _
    obtain ⟨vs, os, h1, h2, h3, h4⟩ := h
    have e0 : s.goneTo kd pl 0 = s := by cases s; simp [PSt.goneTo]
    refine ⟨vs, os, by rw [e0]; exact h1.same f, ?_, ?_, fun j hj => ⟨fun e => ?_, fun e => ?_⟩, h3, h1.lt, h2, h4, f.mono fun _ h => h.elim⟩
    · rw [cell_of_row _ w.heap.size 0 _ _ _ (heap_alloc2_old w _ _)]; rfl
    · rw [cell_of_row _ (w.heap.size + 1) 0 _ _ _ (heap_alloc2_new w _ _)]; rfl
    · have := (h1.own j hj).lt _ e; omega
    · have := (h1.own j hj).lt _ e; omega
  have HI0 := hide hI0
  have k13 : kd = 1 ∨ kd = 3 := hk
  have HL := hide (len_any b s F _ (h.same (Fr.alloc (Fr.alloc (Fr.refl (fun _ => False) w) (.cells #[.int .u8 kd] 5)) (.cells #[.int .i64 pl] 3))) ht)
  have HT : ∀ i, i < 3 → (s.L i).length ≤ 1000000 := fun i hi => Nat.le_trans (s.le_tot hi) ht
  have HT' := hide HT
  clear h hI0 hk HT
  have h13 : (kd != 1) = false ∨ ((kd != 1) = true ∧ (kd != 3) = false) := by
    rcases k13 with rfl | rfl
    · exact .inl (by decide)
    · exact .inr ⟨by decide, by decide⟩
  clear k13
  rcases h13 with n1 | ⟨n1, n3⟩
  all_goals
    go_enter Try.func23, Try.ntmps23
    go_wp2_with (go_at_call 21; refine (HL.out).mono ?_; rintro e w1 ⟨rfl, rfl⟩)
    go_loopw [21] (fun i wr => ∃ k : Nat, k ≤ 3 ∧ i = .int .i64 k ∧ Hid (GoneInv b s F kd pl w k wr)) (fun i _ => 3 - (intOf i).toNat)
    case atStart => exact ⟨0, by omega, rfl, HI0.out⟩
    case round =>
      obtain ⟨k, hk, rfl, hinv⟩ := hrel
      by_cases hlt : k < 3
      · obtain ⟨vs, os, hR⟩ := hinv.out
        have hgk : (s.goneTo kd pl k).L k = s.L k := by simp [PSt.goneTo]
        have hown := hR.pool.own k hlt
        rw [hgk] at hown
        have k1 := hR.pool.cell hlt
        have zf := hR.pool.frozen (1 + k)
        have hbr := hR.pool.lt
        have nb := hown.ne_blk hR.pool.blk (by decide)
        have HD := hide (deleteF_any w.heap.size (w.heap.size + 1) kd pl (vs k) (os k) (s.L k) wr.drew hR.c1 hR.c2 (hown.fr (Fr.drew (Fr.refl (fun _ => False) _)) (fun _ _ h => h)) (hR.ne k hlt).1 (hR.ne k hlt).2 (HT'.out k hlt))
        unfold closV at HD
        have HRR := hide hR
        have HKZ := hide (And.intro k1 (And.intro zf nb))
        clear hown hR hgk zf nb
        go_wp2_with fail
        go_region_law (go_simp; go_at_call 40; refine (HD.out).mono ?_; rintro e w1 ⟨A', cap', o', rfl, m1, ho1, g1⟩; have f1 : Fr (fun x => os k = some x) wr w1 := (Fr.drew (Fr.refl (fun x => os k = some x) _)).trans g1; have y1 := (f1.cell (p := ⟨b, 1 + k, none⟩) hbr HKZ.out.2.2).trans HKZ.out.1; have y2 := (f1.frozen (p := ⟨b, 1 + k, none⟩) hbr HKZ.out.2.2).trans HKZ.out.2.1)
        all_goals
          go_wp2_with fail
          go_roundw
          case rel => exact ⟨k + 1, by omega, by go_num, HRR.out.step hlt m1 ho1 f1⟩
          case measure => simp [intOf]; omega
      · obtain rfl : k = 3 := by omega
        obtain ⟨vs, os, hR⟩ := hinv.out
        have e3 : s.goneTo kd pl 3 = ⟨s.room, fun j => if j < 3 then without kd pl (s.L j) else s.L j⟩ := rfl
        have et : (s.goneTo kd pl 3).tot = (s.drop kd pl).tot := by simp [PSt.tot, PSt.goneTo, PSt.drop]
        have hp : PoolAt 59 31 wr b (s.goneTo kd pl 3) (fun k => F k) := ⟨vs, os, hR.pool, hR.bF, hR.inF, fun k hk => Nat.lt_of_lt_of_le (hR.Fw k hk) hR.fr.size⟩
        have hl2 := len_any b _ _ wr hp (by omega)
        rw [et] at hl2
        have HL2 := hide hl2
        have HRR := hide hR
        have hd2 : (s.drop kd pl).tot ≤ 1000000 := by omega
        clear hl2 hp et e3 hR
        go_wp2_with (go_at_call 21; refine (HL2.out).mono ?_; rintro e w1 ⟨rfl, rfl⟩)
        go_ret
        refine ⟨rfl, ?_⟩
        have hR := HRR.out
        have p := hR.pool
        have p' : PoolR 59 31 wr b (s.drop kd pl) vs os := by
          refine ⟨p.blk, fun i hi => ?_, p.dj⟩
          have := p.own i hi
          have e : (s.goneTo kd pl 3).L i = (s.drop kd pl).L i := by simp [PSt.goneTo, PSt.drop, hi]
          rw [e] at this
          exact this
        exact p'.post hR.bF (fun i hi k hk => .inl (hR.inF i hi k hk)) hR.fr

theorem gone_any (b : Nat) (s : PSt) (F : Nat → Prop) (kd pl : Int) (w : World) (h : PoolAt 59 31 w b s F) (ht : s.tot ≤ 1000000) :
    Calls Try.prog 23 #[.pointer (some ⟨b, 0, none⟩), .int .u8 kd, .int .i64 pl] w fun e w' => e = .returned (.int .i64 (s.gone kd pl).1) ∧ PoolPost 59 31 b (s.gone kd pl).2 F w w' := by
  by_cases hk : kd = 1 ∨ kd = 3
  · have e : s.gone kd pl = ((s.tot : Int) - ((s.drop kd pl).tot : Int), s.drop kd pl) := by simp [PSt.gone, hk]
    rw [e]
    exact gone_yes b s F kd pl w h ht hk
  · have e : s.gone kd pl = (0, s) := by simp [PSt.gone, hk]
    rw [e]
    exact gone_no b s F kd pl w h hk
end Go.Proofs.Ythfihlojpmhagaa
