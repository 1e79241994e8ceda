/- The pool: what adds an event. -/
import Derived.Test.YthfihlojpmhagaaPool1
import Derived.Deep.RegionLaw
import Derived.Deep.RegionHeld3
import Derived.Deep.DrawnRows
namespace Go.Proofs.Ythfihlojpmhagaa
open Go.RowKit
attribute [local go_sem ↓] Go.wp_at_zero Go.wp_at_succ

theorem el_ev : El Try.prog 41 31 4 40 := El.mk (.agg #[.int .u8 0, .string ⟨#[]⟩, .int .i64 0, .int .i64 0]) (by kernel_rfl) (by kernel_rfl) rfl
theorem el_rev : El Try.prog 48 63 4 40 := El.mk (.agg #[.int .u8 0, .string ⟨#[]⟩, .int .i64 0, .int .i64 0]) (by kernel_rfl) (by kernel_rfl) rfl

/-- one event in a new block -/
theorem rd_one (w : World) (E : TypeId) (k : Int) (s : ByteArray) (a t : Int) : Rd evC (w.alloc (.cells #[.int .u8 k, .string s, .int .i64 a, .int .i64 t] E)) (fun g => g = w.heap.size) (.slice (some ⟨w.heap.size, 0, none⟩) 1 1) [⟨k, s, a, t⟩] := by
  refine ⟨_, 1, rfl, Nat.le_refl _, by simp [maxLen], (fun h => by cases h), fun _ => ⟨_, 0, rfl, rfl, fun j u hu => ?_⟩⟩
  rw [cell_of_row _ w.heap.size _ _ _ _ (heap_alloc_new w _)]
  simpa [Cod.flat, evC] using hu

set_option maxHeartbeats 1000000 in
theorem add_core (b i : Nat) (hi : i < 3) (s : PSt) (vs : Nat → Value) (os : Nat → Option Nat) (k : Int) (nm : ByteArray) (a t : Int) (w : World) (h : PoolR 59 31 w b s vs os) (ht : s.tot ≤ 1000000) (hr : (s.tot : Int) < s.room) :
    Calls Try.prog 37 #[.pointer (some ⟨b, 0, none⟩), .int .i64 i, .agg #[.int .u8 k, .string nm, .int .i64 a, .int .i64 t], .bool true] w fun e w' => e = .returned (.int .i64 0) ∧
      ∃ v' o', PoolR 59 31 w' b ⟨s.room, upd s.L i (s.L i ++ [⟨k, nm, a, t⟩])⟩ (upd vs i v') (upd os i o') ∧ Fr (fun k => k = b ∨ os i = some k) w w' ∧ (∀ k, o' = some k → os i = some k ∨ (w.heap.size ≤ k ∧ k < w'.heap.size)) := by
  have h0 := h.cell0
  have h1 := h.cell hi
  have hbs := h.lt
  have H := hide h
  have HP : ∀ w1 : World, Fr (fun _ => False) w w1 → Calls Try.prog 21 #[.pointer (some ⟨b, 0, none⟩)] w1 fun e w' => e = .returned (.int .i64 s.tot) ∧ w1 = w' := fun w1 hf => len_any b s (fun k => k < w1.heap.size) w1 ⟨vs, os, h.same hf, (h.same hf).lt, fun j hj k hk => ((h.same hf).own j hj).lt k hk, fun _ h => h⟩ ht
  have HP' := hide HP
  clear HP h
  have hi' : (i : Int) < 3 := by omega
  go_enter Try.func37, Try.ntmps37
  go_wp2_with fail
  go_quiet ((go_at_call 21; exact quiet_left (HP'.out _ (Fr.drewN (Fr.alloc (Fr.refl _ _) _) _))))
  have hr' : ¬ ((s.tot : Int) ≥ s.room) := by omega
  go_wp2_with fail
  have hfW : Fr (fun _ => False) w ((w.alloc (.cells #[.int .u8 k, .string nm, .int .i64 a, .int .i64 t] 31)).drewN nq) := Fr.drewN (Fr.alloc (Fr.refl _ _) _) _
  have hcW : ((w.alloc (.cells #[.int .u8 k, .string nm, .int .i64 a, .int .i64 t] 31)).drewN nq).heap[w.heap.size]? = some (.cells #[.int .u8 k, .string nm, .int .i64 a, .int .i64 t] 31 (0, 0)) := heap_alloc_new w _
  generalize (w.alloc (.cells #[.int .u8 k, .string nm, .int .i64 a, .int .i64 t] 31)).drewN nq = W at *
  have hPW := hide (H.out.same hfW)
  have c0 := cell_of_row W w.heap.size 0 _ _ _ hcW
  have c1 := cell_of_row W w.heap.size 1 _ _ _ hcW
  have c2 := cell_of_row W w.heap.size 2 _ _ _ hcW
  have c3 := cell_of_row W w.heap.size 3 _ _ _ hcW
  simp at c0 c1 c2 c3
  have k1 := hPW.out.cell hi
  have HfW := hide hfW
  clear hfW hcW h0 h1
  have nb : ¬ os i = some b := (hPW.out.own i hi).ne_blk hPW.out.blk (by decide)
  have nw : ¬ os i = some w.heap.size := fun e => by have := (H.out.own i hi).lt _ e; omega
  have ll := s.le_tot hi
  have lW : b < W.heap.size := hPW.out.lt
  have lw : w.heap.size < W.heap.size := World.block_lt_of_cell? W _ c0
  go_region_law ((refine step_append_Own (by rfl) (by rfl) el_ev (by rfl) (by rfl) ((hPW.out.own i hi).fr (Fr.alloc (Fr.drew (Fr.refl (fun _ => False) _)) _) (fun _ _ h => h)) (rd_one _ _ _ _ _ _) (by (try simp); omega) ?_; intro A' cap' w1 o' hown hfr hnew; have hfr1 := (Fr.alloc (Fr.drew (Fr.refl (fun k => os i = some k) W)) _).trans hfr; have x1 := (hfr1.cell (p := ⟨b, 1 + i, none⟩) lW nb).trans k1; have fz := (hfr1.frozen (p := ⟨b, 1 + i, none⟩) lW nb).trans (hPW.out.frozen _)))
  all_goals
    go_wp2
    go_ret
    have hn' : ∀ k, o' = some k → os i = some k ∨ W.heap.size ≤ k := fun k hk => (hnew k hk).imp id (fun h => by have := h.1; simp at this; omega)
    refine ⟨rfl, _, o', hPW.out.upd_ hi (by decide) hfr1 hown hn', ?_, fun k hk => ?_⟩
    · exact (HfW.out.mono (fun _ h => h.elim)).trans (Fr.setCell (hfr1.mono fun k hk => .inr hk) (.inl (.inl rfl)) _)
    · refine (hnew k hk).imp id (fun h => ?_)
      have h1 := HfW.out.size
      have h2 := h.1
      have h3 := h.2
      simp at h2
      exact ⟨by omega, by simpa [World.setCell] using h3⟩

def PSt.push (s : PSt) (i : Nat) (e : Ev) : PSt := ⟨s.room, upd s.L i (s.L i ++ [e])⟩
def addS (s : PSt) (i : Nat) (e : Ev) (may : Bool) : Int × PSt := if may = false then (2, s) else if s.room ≤ s.tot then (240, s) else (0, s.push i e)

/-- what a method leaves -/
def PoolPost (T E : TypeId) (b : Nat) (s' : PSt) (F : Nat → Prop) (w w' : World) : Prop :=
  ∃ F', PoolAt T E w' b s' F' ∧ Fr F w w' ∧ (∀ k, F' k → F k ∨ w.heap.size ≤ k)

theorem PoolR.post {T E : TypeId} {w w' : World} {b : Nat} {s' : PSt} {vs : Nat → Value} {os : Nat → Option Nat} {F : Nat → Prop} (h : PoolR T E w' b s' vs os) (hb : F b)
    (ho : ∀ i, i < 3 → ∀ k, os i = some k → F k ∨ w.heap.size ≤ k) (hf : Fr F w w') : PoolPost T E b s' F w w' :=
  ⟨fun k => k < w'.heap.size ∧ (F k ∨ w.heap.size ≤ k), ⟨vs, os, h, ⟨h.lt, .inl hb⟩, fun i hi k hk => ⟨(h.own i hi).lt k hk, ho i hi k hk⟩, fun _ h => h.1⟩, hf, fun _ h => h.2⟩
theorem PoolAt.fr {T E : TypeId} {w w1 : World} {b : Nat} {s : PSt} {F fp : Nat → Prop} (h : PoolAt T E w b s F) (hf : Fr fp w w1) (hd : ∀ k, F k → ¬ fp k) : PoolAt T E w1 b s F := by
  obtain ⟨vs, os, h1, h2, h3, h4⟩ := h
  exact ⟨vs, os, h1.fr hf (hd b h2) (fun i hi k hk => hd k (h3 i hi k hk)), h2, h3, fun k hk => Nat.lt_of_lt_of_le (h4 k hk) hf.size⟩
theorem PoolAt.same {T E : TypeId} {w w1 : World} {b : Nat} {s : PSt} {F : Nat → Prop} (h : PoolAt T E w b s F) (hf : Fr (fun _ => False) w w1) : PoolAt T E w1 b s F := h.fr hf fun _ _ h => h
theorem PoolAt.post {T E : TypeId} {w w1 : World} {b : Nat} {s : PSt} {F : Nat → Prop} (h : PoolAt T E w b s F) (hf : Fr (fun _ => False) w w1) : PoolPost T E b s F w w1 :=
  ⟨F, h.same hf, hf.mono fun _ h => h.elim, fun _ hk => .inl hk⟩
/-- first what makes memory alone, then a method -/
theorem PoolPost.after {T E : TypeId} {w w1 w2 : World} {b : Nat} {s' : PSt} {F : Nat → Prop} (h : PoolPost T E b s' F w1 w2) (hf : Fr (fun _ => False) w w1) : PoolPost T E b s' F w w2 := by
  obtain ⟨F', h1, h2, h3⟩ := h
  exact ⟨F', h1, (hf.mono fun _ h => h.elim).trans h2, fun k hk => (h3 k hk).imp id fun h => Nat.le_trans hf.size h⟩
theorem PoolPost.then_ {T E : TypeId} {w w1 w2 : World} {b : Nat} {s' : PSt} {F : Nat → Prop} (h : PoolPost T E b s' F w w1) (hf : Fr (fun _ => False) w1 w2) : PoolPost T E b s' F w w2 := by
  obtain ⟨F', h1, h2, h3⟩ := h
  exact ⟨F', h1.same hf, h2.trans (hf.mono fun _ h => h.elim), h3⟩
theorem Fr.of_below' {w w' : World} (h : Below w.heap.size w w') : Fr (fun _ => False) w w' := Fr.of_below h fun k h1 h2 => by omega
theorem Fr.to_below {w w' : World} (h : Fr (fun _ => False) w w') : Below w.heap.size w w' := h.below (Nat.le_refl _) fun _ _ h => h

/-- an event's cells in a block -/
def evArr (e : Ev) : Array Value := #[.int .u8 e.kind, .string e.name, .int .i64 e.arg, .int .i64 e.at_]
theorem ev_cells {w : World} {g : Nat} {k : Int} {s : ByteArray} {a t : Int} {E : TypeId} (h : w.heap[g]? = some (.cells #[.int .u8 k, .string s, .int .i64 a, .int .i64 t] E (0, 0))) :
    w.cell? ⟨g, 0, none⟩ = some (.int .u8 k) ∧ w.cell? ⟨g, 1, none⟩ = some (.string s) ∧ w.cell? ⟨g, 2, none⟩ = some (.int .i64 a) ∧ w.cell? ⟨g, 3, none⟩ = some (.int .i64 t) := by
  have c0 := cell_of_row w g 0 _ _ _ h
  have c1 := cell_of_row w g 1 _ _ _ h
  have c2 := cell_of_row w g 2 _ _ _ h
  have c3 := cell_of_row w g 3 _ _ _ h
  exact ⟨c0, c1, c2, c3⟩

set_option maxHeartbeats 1000000 in
theorem add_any (b i : Nat) (hi : i < 3) (s : PSt) (F : Nat → Prop) (k : Int) (nm : ByteArray) (a t : Int) (may : Bool) (w : World) (h : PoolAt 59 31 w b s F) (ht : s.tot ≤ 1000000) :
    Calls Try.prog 37 #[.pointer (some ⟨b, 0, none⟩), .int .i64 i, .agg #[.int .u8 k, .string nm, .int .i64 a, .int .i64 t], .bool may] w fun e w' => e = .returned (.int .i64 (addS s i ⟨k, nm, a, t⟩ may).1) ∧
      PoolPost 59 31 b (addS s i ⟨k, nm, a, t⟩ may).2 F w w' := by
  cases may with
  | false =>
    have H := hide h
    clear h
    go_enter Try.func37, Try.ntmps37
    go_wp2_with fail
    go_ret
    exact ⟨rfl, H.out.post (Fr.alloc (Fr.refl _ _) _)⟩
  | true =>
    by_cases hr : s.room ≤ s.tot
    · have e1 : addS s i ⟨k, nm, a, t⟩ true = (240, s) := by simp [addS, hr]
      rw [e1]
      clear e1
      have H := hide h
      have h0 : w.cell? ⟨b, 0, none⟩ = some (.int .i64 s.room) := by obtain ⟨vs, os, h1, -⟩ := h; exact h1.cell0
      have hbs : b < w.heap.size := by obtain ⟨vs, os, h1, -⟩ := h; exact h1.lt
      clear h
      go_enter Try.func37, Try.ntmps37
      go_wp2_with fail
      go_quiet ((go_at_call 21; exact quiet_left (len_any b s F _ (H.out.same (Fr.drewN (Fr.alloc (Fr.refl _ _) _) _)) ht)))
      go_wp2_with fail
      go_ret
      exact ⟨rfl, H.out.post (Fr.drewN (Fr.alloc (Fr.refl _ _) _) _)⟩
    · obtain ⟨vs, os, h1, h2, h3, h4⟩ := h
      refine (add_core b i hi s vs os k nm a t w h1 ht (by omega)).mono fun e w' ⟨he, v', o', hp, hf, hn⟩ => ?_
      have e1 : addS s i ⟨k, nm, a, t⟩ true = (0, s.push i ⟨k, nm, a, t⟩) := by simp [addS, hr]
      rw [e1]
      refine ⟨he, fun k => k < w'.heap.size ∧ (F k ∨ w.heap.size ≤ k), ⟨_, _, hp, ⟨hp.lt, .inl h2⟩, fun j hj x hx => ⟨(hp.own j hj).lt x hx, ?_⟩, fun k h => h.1⟩, hf.mono fun k hk => ?_, fun k h => h.2⟩
      · by_cases hji : j = i
        · subst hji
          rw [upd_same] at hx
          exact (hn x hx).imp (h3 j hj x) (fun h => h.1)
        · rw [upd_other _ _ hji] at hx
          exact .inl (h3 j hj x hx)
      · rcases hk with rfl | hk
        · exact h2
        · exact h3 i hi k hk

theorem add0 (b : Nat) (s : PSt) (F : Nat → Prop) (k : Int) (nm : ByteArray) (a t : Int) (may : Bool) (w : World) (h : PoolAt 59 31 w b s F) (ht : s.tot ≤ 1000000) :
    Calls Try.prog 37 #[.pointer (some ⟨b, 0, none⟩), .int .i64 0, .agg #[.int .u8 k, .string nm, .int .i64 a, .int .i64 t], .bool may] w fun e w' => e = .returned (.int .i64 (addS s 0 ⟨k, nm, a, t⟩ may).1) ∧
      PoolPost 59 31 b (addS s 0 ⟨k, nm, a, t⟩ may).2 F w w' := add_any b 0 (by omega) s F k nm a t may w h ht
theorem add1 (b : Nat) (s : PSt) (F : Nat → Prop) (k : Int) (nm : ByteArray) (a t : Int) (may : Bool) (w : World) (h : PoolAt 59 31 w b s F) (ht : s.tot ≤ 1000000) :
    Calls Try.prog 37 #[.pointer (some ⟨b, 0, none⟩), .int .i64 1, .agg #[.int .u8 k, .string nm, .int .i64 a, .int .i64 t], .bool may] w fun e w' => e = .returned (.int .i64 (addS s 1 ⟨k, nm, a, t⟩ may).1) ∧
      PoolPost 59 31 b (addS s 1 ⟨k, nm, a, t⟩ may).2 F w w' := add_any b 1 (by omega) s F k nm a t may w h ht
theorem add2 (b : Nat) (s : PSt) (F : Nat → Prop) (k : Int) (nm : ByteArray) (a t : Int) (may : Bool) (w : World) (h : PoolAt 59 31 w b s F) (ht : s.tot ≤ 1000000) :
    Calls Try.prog 37 #[.pointer (some ⟨b, 0, none⟩), .int .i64 2, .agg #[.int .u8 k, .string nm, .int .i64 a, .int .i64 t], .bool may] w fun e w' => e = .returned (.int .i64 (addS s 2 ⟨k, nm, a, t⟩ may).1) ∧
      PoolPost 59 31 b (addS s 2 ⟨k, nm, a, t⟩ may).2 F w w' := add_any b 2 (by omega) s F k nm a t may w h ht

/-- a block that is new is none of the pool's -/
theorem PoolPost.frees {T E : TypeId} {w w1 w2 : World} {b : Nat} {s' : PSt} {F : Nat → Prop} {o : Obj} (h : PoolPost T E b s' F w1 w2) (hF : ∀ k, F k → k < w.heap.size) (_ : Fr (fun _ => False) w w1) (hy : w1.heap[w.heap.size]? = some o) : w2.heap[w.heap.size]? = some o := by
  obtain ⟨F', h1, h2, h3⟩ := h
  have hlt : w.heap.size < w1.heap.size := (Array.getElem?_eq_some_iff.1 hy).1
  exact (h2.block _ hlt (fun hf => by have := hF _ hf; omega)).trans hy

def putS (s : PSt) (e : Ev) : Int × PSt := addS s (if e.kind = 1 then 0 else 1) e (mayB e)
set_option maxHeartbeats 1000000 in
theorem put_any (b : Nat) (s : PSt) (F : Nat → Prop) (k : Int) (nm : ByteArray) (a t : Int) (w : World) (h : PoolAt 59 31 w b s F) (ht : s.tot ≤ 1000000) :
    Calls Try.prog 16 #[.pointer (some ⟨b, 0, none⟩), .agg #[.int .u8 k, .string nm, .int .i64 a, .int .i64 t]] w fun e w' => e = .returned (.int .i64 (putS s ⟨k, nm, a, t⟩).1) ∧
      PoolPost 59 31 b (putS s ⟨k, nm, a, t⟩).2 F w w' := by
  have H := hide h
  have hFw : ∀ k, F k → k < w.heap.size := by obtain ⟨vs, os, h1, h2, h3, h4⟩ := h; exact h4
  have HF := hide hFw
  clear h hFw
  have hcW : (w.alloc (.cells #[.int .u8 k, .string nm, .int .i64 a, .int .i64 t] 31)).heap[w.heap.size]? = some (.cells #[.int .u8 k, .string nm, .int .i64 a, .int .i64 t] 31 (0, 0)) := heap_alloc_new w _
  have HC := hide hcW
  clear hcW
  by_cases hk : k = 1
  · have hp : putS s ⟨k, nm, a, t⟩ = addS s 0 ⟨k, nm, a, t⟩ (mayB ⟨k, nm, a, t⟩) := by simp [putS, hk]
    rw [hp]
    have hkb : (k == 1) = true := by simpa using hk
    clear hp hk
    go_enter Try.func16, Try.ntmps16
    go_wp2_with fail
    go_region_held3 (fun w' => w'.cell? ⟨w.heap.size, 0, none⟩ = some (.int .u8 k) ∧ w'.cell? ⟨w.heap.size, 1, none⟩ = some (.string nm) ∧ w'.cell? ⟨w.heap.size, 2, none⟩ = some (.int .i64 a) ∧ w'.cell? ⟨w.heap.size, 3, none⟩ = some (.int .i64 t))
      (first | exact ev_cells z | exact ev_cells y | exact ev_cells HC.out)
      (first
        | (go_at_call 33; refine (may_any _ _ _ _ _).mono ?_; rintro e w1 ⟨rfl, hb1⟩; have y := (hb1.block w.heap.size (by simp)).trans HC.out; have f1 : Fr (fun _ => False) w w1 := (Fr.drew (Fr.alloc (Fr.refl _ _) _)).trans (Fr.of_below' hb1))
        | (go_at_call 37; refine (add0 b s F _ _ _ _ _ _ (H.out.same f1) ht).mono ?_; rintro e w2 ⟨rfl, hp2⟩; have z := hp2.frees HF.out f1 y))
    go_wp2
    go_ret
    exact ⟨rfl, hp2.after f1⟩
  · have hp : putS s ⟨k, nm, a, t⟩ = addS s 1 ⟨k, nm, a, t⟩ (mayB ⟨k, nm, a, t⟩) := by simp [putS, hk]
    rw [hp]
    have hkb : (k == 1) = false := by simpa using hk
    clear hp hk
    go_enter Try.func16, Try.ntmps16
    go_wp2_with fail
    go_region_held3 (fun w' => w'.cell? ⟨w.heap.size, 0, none⟩ = some (.int .u8 k) ∧ w'.cell? ⟨w.heap.size, 1, none⟩ = some (.string nm) ∧ w'.cell? ⟨w.heap.size, 2, none⟩ = some (.int .i64 a) ∧ w'.cell? ⟨w.heap.size, 3, none⟩ = some (.int .i64 t))
      (first | exact ev_cells z | exact ev_cells y | exact ev_cells HC.out)
      (first
        | (go_at_call 33; refine (may_any _ _ _ _ _).mono ?_; rintro e w1 ⟨rfl, hb1⟩; have y := (hb1.block w.heap.size (by simp)).trans HC.out; have f1 : Fr (fun _ => False) w w1 := (Fr.drew (Fr.alloc (Fr.refl _ _) _)).trans (Fr.of_below' hb1))
        | (go_at_call 37; refine (add1 b s F _ _ _ _ _ _ (H.out.same f1) ht).mono ?_; rintro e w2 ⟨rfl, hp2⟩; have z := hp2.frees HF.out f1 y))
    go_wp2
    go_ret
    exact ⟨rfl, hp2.after f1⟩
end Go.Proofs.Ythfihlojpmhagaa
