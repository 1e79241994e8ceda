/- The pool's laws: a call, to both. -/
import Derived.Test.YthfihlojpmhagaaPool14
namespace Go.Proofs.Ythfihlojpmhagaa
open Go.RowKit
attribute [local go_sem ↓] Go.wp_at_zero Go.wp_at_succ

theorem PoolPost.other {T E T' E' : TypeId} {w w1 : World} {b c : Nat} {s1 s' : PSt} {F G : Nat → Prop} (h : PoolPost T E b s1 F w w1) (h' : PoolAt T' E' w c s' G) (hd : ∀ k, F k → ¬ G k) : PoolAt T' E' w1 c s' G := by
  obtain ⟨F', -, hf, -⟩ := h
  exact h'.fr hf (fun k hk hF => hd k hF hk)
theorem PoolPost.block {T E : TypeId} {w w1 : World} {b g : Nat} {s1 : PSt} {F : Nat → Prop} {o : Obj} (h : PoolPost T E b s1 F w w1) (hg : w.heap[g]? = some o) (hF : ¬ F g) : w1.heap[g]? = some o := by
  obtain ⟨F', -, hf, -⟩ := h
  exact (hf.block g (Array.getElem?_eq_some_iff.1 hg).1 hF).trans hg
theorem PoolPost.size {T E : TypeId} {w w1 : World} {b : Nat} {s1 : PSt} {F : Nat → Prop} (h : PoolPost T E b s1 F w w1) : w.heap.size ≤ w1.heap.size := by
  obtain ⟨F', -, hf, -⟩ := h
  exact hf.size
theorem PoolAt.congr {T E : TypeId} {w : World} {b : Nat} {s s' : PSt} {F : Nat → Prop} (hr : s.room = s'.room) (hL : ∀ i, i < 3 → s.L i = s'.L i) (h : PoolAt T E w b s F) : PoolAt T E w b s' F := by
  obtain ⟨vs, os, h1, h2⟩ := h
  exact ⟨vs, os, ⟨by rw [← hr]; exact h1.blk, fun i hi => by rw [← hL i hi]; exact h1.own i hi, h1.dj⟩, h2⟩
theorem PoolPost.congr {T E : TypeId} {w w1 : World} {b : Nat} {s s' : PSt} {F : Nat → Prop} (hr : s.room = s'.room) (hL : ∀ i, i < 3 → s.L i = s'.L i) (h : PoolPost T E b s F w w1) : PoolPost T E b s' F w w1 := by
  obtain ⟨F', h1, h2⟩ := h
  exact ⟨F', h1.congr hr hL, h2⟩

/-- a pool, and the reference's, that have the same -/
structure Both (w : World) (b c : Nat) (s : PSt) (F G : Nat → Prop) : Prop where
  p : PoolAt 59 31 w b s F
  r : PoolAt 61 63 w c s G
  dis : ∀ k, F k → ¬ G k
def BothPost (b c : Nat) (s : PSt) (F G : Nat → Prop) (w w' : World) : Prop :=
  ∃ F' G', Both w' b c s F' G' ∧ Fr (fun k => F k ∨ G k) w w' ∧ (∀ k, F' k ∨ G' k → F k ∨ G k ∨ w.heap.size ≤ k)

theorem PoolAt.lt {T E : TypeId} {w : World} {b : Nat} {s : PSt} {F : Nat → Prop} (h : PoolAt T E w b s F) : ∀ k, F k → k < w.heap.size := by
  obtain ⟨vs, os, h1, h2, h3, h4⟩ := h
  exact h4

theorem Both.post {w w1 w2 w3 w4 : World} {b c : Nat} {s s1 : PSt} {F G : Nat → Prop} (h : Both w b c s F G) (hp : PoolPost 59 31 b s1 F w w1) (f : Fr (fun _ => False) w1 w2) (hr : PoolPost 61 63 c s1 G w2 w3) (f' : Fr (fun _ => False) w3 w4) : BothPost b c s1 F G w w4 := by
  obtain ⟨F', hp1, hp2, hp3⟩ := hp
  obtain ⟨G', hr1, hr2, hr3⟩ := hr
  have hs : w.heap.size ≤ w2.heap.size := Nat.le_trans hp2.size f.size
  refine ⟨F', G', ⟨((hp1.same f).fr hr2 (fun k hk hG => ?_)).same f', hr1.same f', fun k hF hG => ?_⟩, ?_, fun k hk => ?_⟩
  · rcases hp3 k hk with h1 | h1
    · exact h.dis k h1 hG
    · have := h.r.lt k hG; omega
  · rcases hr3 k hG with h1 | h1
    · rcases hp3 k hF with h2 | h2
      · exact h.dis k h2 h1
      · have := h.r.lt k h1; omega
    · have := hp1.lt k hF; have := f.size; omega
  · exact (((hp2.mono fun k hk => .inl hk).trans (f.mono fun _ h => h.elim)).trans (hr2.mono fun k hk => .inr hk)).trans (f'.mono fun _ h => h.elim)
  · rcases hk with hk | hk
    · exact (hp3 k hk).imp id .inr
    · rcases hr3 k hk with h1 | h1
      · exact .inr (.inl h1)
      · exact .inr (.inr (Nat.le_trans hs h1))
/-- first what makes memory alone -/
theorem BothPost.after {w w0 w' : World} {b c : Nat} {s1 : PSt} {F G : Nat → Prop} (f : Fr (fun _ => False) w w0) (h : BothPost b c s1 F G w0 w') : BothPost b c s1 F G w w' := by
  obtain ⟨F', G', h1, h2, h3⟩ := h
  exact ⟨F', G', h1, (f.mono fun _ h => h.elim).trans h2, fun k hk => by
    rcases h3 k hk with h4 | h4 | h4
    · exact .inl h4
    · exact .inr (.inl h4)
    · exact .inr (.inr (Nat.le_trans f.size h4))⟩
theorem Both.same {w w0 : World} {b c : Nat} {s : PSt} {F G : Nat → Prop} (h : Both w b c s F G) (f : Fr (fun _ => False) w w0) : Both w0 b c s F G := ⟨h.p.same f, h.r.same f, h.dis⟩

/-- what is so of pools, whatever was called -/
structure PInv (s : PSt) : Prop where
  tot : s.tot ≤ 256
  room : s.room ≤ 256
  defer : ∀ e ∈ s.L 2, e.kind = 2

structure AEv where
  kind : Int
  ev : Ev
def actC : Cod AEv where
  size := 5
  cells e := .int .i64 e.kind :: evC.cells e.ev
  len _ := rfl
  one x u hu := by
    simp only [evC, List.mem_cons, List.not_mem_nil, or_false] at hu
    rcases hu with rfl | rfl | rfl | rfl | rfl <;> rfl
  pos := by decide
def doesS (s : PSt) (a : AEv) : PSt :=
  if a.kind % 7 = 2 then (deferS s a.ev).2 else if a.kind % 7 = 3 then s.recall else if a.kind % 7 = 4 ∨ a.kind % 7 = 5 then s.next.2
  else if a.kind % 7 = 6 then (s.gone a.ev.kind a.ev.at_).2 else (putS s a.ev).2

theorem without_defer {kd pl : Int} {l : List Ev} (h : ∀ e ∈ l, e.kind = 2) (hk : kd = 1 ∨ kd = 3) : without kd pl l = l := by
  unfold without
  rw [List.filter_eq_self]
  intro e he
  have := h e he
  simp [isOf]
  omega
theorem gone_eq {s : PSt} (h : PInv s) (kd pl : Int) : (s.rgone kd pl).1 = (s.gone kd pl).1 ∧ (s.rgone kd pl).2.room = (s.gone kd pl).2.room ∧ ∀ i, i < 3 → (s.rgone kd pl).2.L i = (s.gone kd pl).2.L i := by
  unfold PSt.rgone PSt.gone
  by_cases hk : kd = 1 ∨ kd = 3
  · rw [if_pos hk, if_pos hk]
    have hL : ∀ i, i < 3 → (s.rdrop kd pl).L i = (s.drop kd pl).L i := by
      intro i hi
      have h2 := without_defer (pl := pl) h.defer hk
      rcases i with _ | _ | _ | i
      · rfl
      · rfl
      · exact h2.symm
      · omega
    refine ⟨?_, rfl, hL⟩
    unfold PSt.tot
    rw [hL 0 (by omega), hL 1 (by omega), hL 2 (by omega)]
  · rw [if_neg hk, if_neg hk]
    exact ⟨rfl, rfl, fun _ _ => rfl⟩

theorem addS_inv {s : PSt} (h : PInv s) {i : Nat} (hi : i < 3) (e : Ev) (m : Bool) (hd : i = 2 → m = true → e.kind = 2) : PInv (addS s i e m).2 := by
  unfold addS
  by_cases hm : m = false
  · rw [if_pos hm]; exact h
  · rw [if_neg hm]
    by_cases hr : s.room ≤ s.tot
    · rw [if_pos hr]; exact h
    · rw [if_neg hr]
      have hmt : m = true := by simpa using hm
      have hroom := h.room
      have ht : (s.push i e).tot = s.tot + 1 := by
        unfold PSt.tot PSt.push
        rcases i with _ | _ | _ | i
        · simp [upd]; omega
        · simp [upd]; omega
        · simp [upd]; omega
        · omega
      refine ⟨by rw [ht]; omega, hroom, fun x hx => ?_⟩
      by_cases h2 : i = 2
      · subst h2
        simp only [PSt.push, upd_same, List.mem_append, List.mem_singleton] at hx
        rcases hx with hx | rfl
        · exact h.defer x hx
        · exact hd rfl hmt
      · simp only [PSt.push, upd_other _ _ (Ne.symm h2)] at hx
        exact h.defer x hx
theorem does_inv {s : PSt} (h : PInv s) (a : AEv) : PInv (doesS s a) := by
  unfold doesS
  repeat' split
  · exact addS_inv h (by omega) _ _ (fun _ hm => by simpa using (Bool.and_eq_true_iff.1 hm).1)
  · refine ⟨?_, h.room, ?_⟩
    · have := h.tot
      unfold PSt.tot PSt.recall at *
      simp [upd]
      omega
    · simp [PSt.recall, upd]
  · unfold PSt.next
    repeat' split
    · rename_i e l he
      refine ⟨?_, h.room, ?_⟩
      · have := h.tot
        unfold PSt.tot at *
        rw [he] at this
        simp [upd] at *
        omega
      · simpa [upd] using h.defer
    · rename_i e l he
      refine ⟨?_, h.room, ?_⟩
      · have := h.tot
        unfold PSt.tot at *
        rw [he] at this
        simp [upd] at *
        omega
      · simpa [upd] using h.defer
    · exact h
  · unfold PSt.gone
    split
    · refine ⟨Nat.le_trans (s.drop_le _ _) h.tot, h.room, fun x hx => ?_⟩
      simp only [PSt.drop, without, List.mem_filter] at hx
      exact h.defer x hx.1
    · exact h
  · exact addS_inv h (by split <;> omega) _ _ (fun h2 => by split at h2 <;> omega)

set_option maxHeartbeats 400000 in
theorem pick7 (i : Int) (w : World) : Calls Try.prog 15 #[.int .i64 i, .int .i64 7] w fun e w' => e = .returned (.int .i64 (i % 7)) ∧ w = w' := by
  have h0 : -7 < i.tmod 7 ∧ i.tmod 7 < 7 ∧ (i.tmod 7 + 7) % 7 = i % 7 := by
    rcases Int.le_total 0 i with h | h
    · rw [Int.tmod_eq_emod_of_nonneg h]; omega
    · obtain ⟨j, rfl⟩ : ∃ j, i = -j := ⟨-i, by omega⟩
      rw [Int.neg_tmod, Int.tmod_eq_emod_of_nonneg (by omega)]; omega
  obtain ⟨h1, h2, h3⟩ := h0
  have H3 := hide h3
  clear h3
  go_enter Try.func15, Try.ntmps15
  go_wp2
  go_ret
  exact ⟨by rw [← H3.out]; rfl, rfl⟩

def boxA (w : World) (a : AEv) : World := w.alloc (.cells #[.int .i64 a.kind, .int .u8 a.ev.kind, .string a.ev.name, .int .i64 a.ev.arg, .int .i64 a.ev.at_] 33)
theorem act_cells {w : World} {g : Nat} {a : Int} {k : Int} {s : ByteArray} {x t : Int} {E : TypeId} (h : w.heap[g]? = some (.cells #[.int .i64 a, .int .u8 k, .string s, .int .i64 x, .int .i64 t] E (0, 0))) :
    w.cell? ⟨g, 1, none⟩ = some (.int .u8 k) ∧ w.cell? ⟨g, 2, none⟩ = some (.string s) ∧ w.cell? ⟨g, 3, none⟩ = some (.int .i64 x) ∧ w.cell? ⟨g, 4, none⟩ = some (.int .i64 t) := by
  have c0 := cell_of_row w g 1 _ _ _ h
  have c1 := cell_of_row w g 2 _ _ _ h
  have c2 := cell_of_row w g 3 _ _ _ h
  have c3 := cell_of_row w g 4 _ _ _ h
  exact ⟨c0, c1, c2, c3⟩

/-- what is so when a call begins, behind its box -/
structure DoesPre (w : World) (b c : Nat) (s : PSt) (F G : Nat → Prop) (ak k : Int) (nm : ByteArray) (x t : Int) (W : World) : Prop where
  both : Both W b c s F G
  box : W.heap[w.heap.size]? = some (.cells #[.int .i64 ak, .int .u8 k, .string nm, .int .i64 x, .int .i64 t] 33 (0, 0))
  fr : Fr (fun _ => False) w W
  nF : ¬ F w.heap.size
  nG : ¬ G w.heap.size

set_option maxHeartbeats 2000000 in
theorem does2 (b c : Nat) (s : PSt) (F G : Nat → Prop) (ak k : Int) (nm : ByteArray) (x t : Int) (w : World) (h : Both w b c s F G) (hi : PInv s) (hk : ak % 7 = 2) :
    Calls Try.prog 13 #[.pointer (some ⟨b, 0, none⟩), .pointer (some ⟨c, 0, none⟩), .agg #[.int .i64 ak, .int .u8 k, .string nm, .int .i64 x, .int .i64 t]] w fun e w' => e = .returned (.bool true) ∧ BothPost b c (deferS s ⟨k, nm, x, t⟩).2 F G w w' := by
  have ht : s.tot ≤ 1000000 := Nat.le_trans hi.tot (by omega)
  have HD := hide (show DoesPre w b c s F G ak k nm x t (w.alloc (.cells #[.int .i64 ak, .int .u8 k, .string nm, .int .i64 x, .int .i64 t] 33)) from
    ⟨h.same (Fr.alloc (Fr.refl _ _) _), heap_alloc_new w _, Fr.alloc (Fr.refl _ _) _, fun hf => by have := h.p.lt _ hf; omega, fun hf => by have := h.r.lt _ hf; omega⟩)
  have HP := hide (fun W => hk ▸ pick7 ak W)
  clear h hk hi
  go_enter Try.func13, Try.ntmps13
  go_wp2_with (go_at_call 15; refine (HP.out _).mono ?_; rintro e w1 ⟨rfl, rfl⟩)
  have f0 : Fr (fun _ => False) (w.alloc (.cells #[.int .i64 ak, .int .u8 k, .string nm, .int .i64 x, .int .i64 t] 33)) (w.alloc (.cells #[.int .i64 ak, .int .u8 k, .string nm, .int .i64 x, .int .i64 t] 33)).drew := Fr.drew (Fr.refl _ _)
  generalize hW : w.alloc (.cells #[.int .i64 ak, .int .u8 k, .string nm, .int .i64 x, .int .i64 t] 33) = W at *
  obtain ⟨y0, y1, y2, y3⟩ := act_cells HD.out.box
  have hlt : w.heap.size < W.heap.size := (Array.getElem?_eq_some_iff.1 HD.out.box).1
  clear hW
  go_region_held3 (fun w' => w'.cell? ⟨w.heap.size, 1, none⟩ = some (.int .u8 k) ∧ w'.cell? ⟨w.heap.size, 2, none⟩ = some (.string nm) ∧ w'.cell? ⟨w.heap.size, 3, none⟩ = some (.int .i64 x) ∧ w'.cell? ⟨w.heap.size, 4, none⟩ = some (.int .i64 t))
    (first | exact act_cells z3 | exact act_cells z2 | exact act_cells z1 | exact act_cells HD.out.box)
    (first
      | (go_at_call 17; refine (defer_any b s F k nm x t _ (HD.out.both.p.same f0) ht).mono ?_; rintro e w1 ⟨rfl, hp⟩; have z1 := hp.block HD.out.box HD.out.nF; have hr1 := hp.other (HD.out.both.r.same f0) HD.out.both.dis)
      | (go_at_call 29; refine (conv_any k nm x t _).mono ?_; rintro e w2 ⟨rfl, hb2⟩; have z2 := (hb2.block w.heap.size (Nat.lt_of_lt_of_le hlt (Nat.le_trans f0.size hp.size))).trans z1; have hr2 := hr1.same (Fr.of_below' hb2))
      | (go_at_call 28; refine (rdefer_any c s G k nm x t _ hr2 ht).mono ?_; rintro e w3 ⟨rfl, hq⟩; have z3 := hq.block z2 HD.out.nG))
  go_wp2_with fail
  go_ret
  refine ⟨by simp, ?_⟩
  exact (BothPost.after (HD.out.fr.trans f0) ((HD.out.both.same f0).post hp (Fr.of_below' hb2) hq (Fr.refl _ _)))
end Go.Proofs.Ythfihlojpmhagaa
