/- The pool's laws: a call, to both. -/
import Derived.Test.YthfihlojpmhagaaPool15
namespace Go.Proofs.Ythfihlojpmhagaa
open Go.RowKit
attribute [local go_sem ↓] Go.wp_at_zero Go.wp_at_succ

set_option maxHeartbeats 2000000 in
theorem does3 (b c : Nat) (s : PSt) (F G : Nat → Prop) (ak k : Int) (nm : ByteArray) (x t : Int) (w : World) (h : Both w b c s F G) (hi : PInv s) (hk : ak % 7 = 3) :
    Calls Try.prog 13 #[.pointer (some ⟨b, 0, none⟩), .pointer (some ⟨c, 0, none⟩), .agg #[.int .i64 ak, .int .u8 k, .string nm, .int .i64 x, .int .i64 t]] w fun e w' => e = .returned (.bool true) ∧ BothPost b c s.recall F G w w' := by
  have ht : s.tot ≤ 1000000 := Nat.le_trans hi.tot (by omega)
  have HD := hide (show DoesPre w b c s F G ak k nm x t (w.alloc (.cells #[.int .i64 ak, .int .u8 k, .string nm, .int .i64 x, .int .i64 t] 33)) from
    ⟨h.same (Fr.alloc (Fr.refl _ _) _), heap_alloc_new w _, Fr.alloc (Fr.refl _ _) _, fun hf => by have := h.p.lt _ hf; omega, fun hf => by have := h.r.lt _ hf; omega⟩)
  have HP := hide (fun W => hk ▸ pick7 ak W)
  clear h hk hi
  go_enter Try.func13, Try.ntmps13
  go_wp2_with (first
    | (go_at_call 15; refine (HP.out _).mono ?_; rintro e w1 ⟨rfl, rfl⟩)
    | (go_at_call 18; refine (recall_any b s F _ HD.out.both.p ht).mono ?_; rintro e w1 ⟨rfl, hp⟩; have hr1 := hide (hp.other HD.out.both.r HD.out.both.dis); have HP1 := hide hp; clear hp)
    | (go_at_call 30; refine (rrecall_any c s G _ hr1.out ht).mono ?_; rintro e w3 ⟨rfl, hq⟩; have HQ1 := hide hq; clear hq))
  go_ret
  refine ⟨by simp, ?_⟩
  exact (BothPost.after HD.out.fr (HD.out.both.post HP1.out (Fr.refl _ _) HQ1.out (Fr.refl _ _)))

set_option maxHeartbeats 2000000 in
theorem does01 (b c : Nat) (s : PSt) (F G : Nat → Prop) (ak k : Int) (nm : ByteArray) (x t : Int) (w : World) (h : Both w b c s F G) (hi : PInv s) (hk : ak % 7 = 0 ∨ ak % 7 = 1) :
    Calls Try.prog 13 #[.pointer (some ⟨b, 0, none⟩), .pointer (some ⟨c, 0, none⟩), .agg #[.int .i64 ak, .int .u8 k, .string nm, .int .i64 x, .int .i64 t]] w fun e w' => e = .returned (.bool true) ∧ BothPost b c (putS s ⟨k, nm, x, t⟩).2 F G w w' := by
  have ht : s.tot ≤ 1000000 := Nat.le_trans hi.tot (by omega)
  have HD := hide (show DoesPre w b c s F G ak k nm x t (w.alloc (.cells #[.int .i64 ak, .int .u8 k, .string nm, .int .i64 x, .int .i64 t] 33)) from
    ⟨h.same (Fr.alloc (Fr.refl _ _) _), heap_alloc_new w _, Fr.alloc (Fr.refl _ _) _, fun hf => by have := h.p.lt _ hf; omega, fun hf => by have := h.r.lt _ hf; omega⟩)
  have h01 : ∃ n : Int, ak % 7 = n ∧ (n == 2) = false ∧ (n == 3) = false ∧ (n == 4) = false ∧ (n == 5) = false ∧ (n == 6) = false := by
    rcases hk with hk | hk <;> exact ⟨_, hk, by decide, by decide, by decide, by decide, by decide⟩
  obtain ⟨n, hn, n2, n3, n4, n5, n6⟩ := h01
  have HP := hide (fun W => hn ▸ pick7 ak W)
  clear h hk hi hn
  go_enter Try.func13, Try.ntmps13
  go_wp2_with (go_at_call 15; refine (HP.out _).mono ?_; rintro e w1 ⟨rfl, rfl⟩)
  have f0 : Fr (fun _ => False) (w.alloc (.cells #[.int .i64 ak, .int .u8 k, .string nm, .int .i64 x, .int .i64 t] 33)) (w.alloc (.cells #[.int .i64 ak, .int .u8 k, .string nm, .int .i64 x, .int .i64 t] 33)).drew := Fr.drew (Fr.refl _ _)
  generalize hW : w.alloc (.cells #[.int .i64 ak, .int .u8 k, .string nm, .int .i64 x, .int .i64 t] 33) = W at *
  obtain ⟨y0, y1, y2, y3⟩ := act_cells HD.out.box
  have hlt : w.heap.size < W.heap.size := (Array.getElem?_eq_some_iff.1 HD.out.box).1
  clear hW
  go_region_held3 (fun w' => w'.cell? ⟨w.heap.size, 1, none⟩ = some (.int .u8 k) ∧ w'.cell? ⟨w.heap.size, 2, none⟩ = some (.string nm) ∧ w'.cell? ⟨w.heap.size, 3, none⟩ = some (.int .i64 x) ∧ w'.cell? ⟨w.heap.size, 4, none⟩ = some (.int .i64 t))
    (first | exact act_cells z5 | exact act_cells z4 | exact act_cells z3 | exact act_cells z2 | exact act_cells z1 | exact act_cells HD.out.box)
    (first
      | (go_at_call 33; refine (may_any k nm x t _).mono ?_; rintro e v1 ⟨rfl, a1⟩; have z1 := (a1.block w.heap.size (Nat.lt_of_lt_of_le hlt f0.size)).trans HD.out.box; have e1 := f0.trans (Fr.of_below' a1))
      | (go_at_call 34; refine (rmay_any k nm x t _).mono ?_; rintro e v3 ⟨rfl, a3⟩; have z3 := (a3.block w.heap.size (Nat.lt_of_lt_of_le hlt e2.size)).trans z2; have e3 := e2.trans (Fr.of_below' a3))
      | (go_at_call 16; refine (put_any b s F k nm x t _ (HD.out.both.p.same e3) ht).mono ?_; rintro e v4 ⟨rfl, hp⟩; have z4 := hp.block z3 HD.out.nF; have hr4 := hp.other (HD.out.both.r.same e3) HD.out.both.dis)
      | (go_at_call 35; refine (rput_any c s G k nm x t _ hr5 ht).mono ?_; rintro e v6 ⟨rfl, hq⟩; have z5 := hq.block z6 HD.out.nG)
      | (go_at_call 29; refine (conv_any k nm x t _).mono ?_; rintro e v5 ⟨rfl, a5⟩; have z6 := (a5.block w.heap.size (Nat.lt_of_lt_of_le hlt (Nat.le_trans e3.size hp.size))).trans z4; have hr5 := hr4.same (Fr.of_below' a5); have z5 := z6)
      | (go_at_call 29; refine (conv_any k nm x t _).mono ?_; rintro e v2 ⟨rfl, a2⟩; have z2 := (a2.block w.heap.size (Nat.lt_of_lt_of_le hlt e1.size)).trans z1; have e2 := e1.trans (Fr.of_below' a2)))
  go_wp2_with fail
  go_ret
  refine ⟨by simp, ?_⟩
  exact (BothPost.after (HD.out.fr.trans e3) ((HD.out.both.same e3).post hp (Fr.of_below' a5) hq (Fr.refl _ _)))

set_option maxHeartbeats 2000000 in
theorem does6 (b c : Nat) (s : PSt) (F G : Nat → Prop) (ak k : Int) (nm : ByteArray) (x t : Int) (w : World) (h : Both w b c s F G) (hi : PInv s) (hk : ak % 7 = 6) :
    Calls Try.prog 13 #[.pointer (some ⟨b, 0, none⟩), .pointer (some ⟨c, 0, none⟩), .agg #[.int .i64 ak, .int .u8 k, .string nm, .int .i64 x, .int .i64 t]] w fun e w' => e = .returned (.bool true) ∧ BothPost b c (s.gone k t).2 F G w w' := by
  have ht : s.tot ≤ 1000000 := Nat.le_trans hi.tot (by omega)
  have HD := hide (show DoesPre w b c s F G ak k nm x t (w.alloc (.cells #[.int .i64 ak, .int .u8 k, .string nm, .int .i64 x, .int .i64 t] 33)) from
    ⟨h.same (Fr.alloc (Fr.refl _ _) _), heap_alloc_new w _, Fr.alloc (Fr.refl _ _) _, fun hf => by have := h.p.lt _ hf; omega, fun hf => by have := h.r.lt _ hf; omega⟩)
  have HP := hide (fun W => hk ▸ pick7 ak W)
  have HG := hide (gone_eq hi k t)
  clear h hk hi
  go_enter Try.func13, Try.ntmps13
  go_wp2_with (go_at_call 15; refine (HP.out _).mono ?_; rintro e w1 ⟨rfl, rfl⟩)
  have f0 : Fr (fun _ => False) (w.alloc (.cells #[.int .i64 ak, .int .u8 k, .string nm, .int .i64 x, .int .i64 t] 33)) (w.alloc (.cells #[.int .i64 ak, .int .u8 k, .string nm, .int .i64 x, .int .i64 t] 33)).drew := Fr.drew (Fr.refl _ _)
  generalize hW : w.alloc (.cells #[.int .i64 ak, .int .u8 k, .string nm, .int .i64 x, .int .i64 t] 33) = W at *
  obtain ⟨y0, y1, y2, y3⟩ := act_cells HD.out.box
  have hlt : w.heap.size < W.heap.size := (Array.getElem?_eq_some_iff.1 HD.out.box).1
  clear hW
  go_region_held3 (fun w' => w'.cell? ⟨w.heap.size, 1, none⟩ = some (.int .u8 k) ∧ w'.cell? ⟨w.heap.size, 2, none⟩ = some (.string nm) ∧ w'.cell? ⟨w.heap.size, 3, none⟩ = some (.int .i64 x) ∧ w'.cell? ⟨w.heap.size, 4, none⟩ = some (.int .i64 t))
    (first | exact act_cells z2 | exact act_cells z1 | exact act_cells HD.out.box)
    (first
      | (go_at_call 23; refine (gone_any b s F k t _ (HD.out.both.p.same f0) ht).mono ?_; rintro e w1 ⟨rfl, hp⟩; have z1 := hp.block HD.out.box HD.out.nF; have hr1 := hp.other (HD.out.both.r.same f0) HD.out.both.dis)
      | (go_at_call 32; refine (rgone_any c s G k t _ hr1 ht).mono ?_; rintro e w3 ⟨rfl, hq⟩; have z2 := hq.block z1 HD.out.nG))
  have HX := hide hp
  have HY := hide hq
  clear hp hq
  go_wp2_with fail
  go_ret
  refine ⟨by simp [HG.out.1], ?_⟩
  exact (BothPost.after (HD.out.fr.trans f0) ((HD.out.both.same f0).post HX.out (Fr.refl _ _) (HY.out.congr HG.out.2.1 HG.out.2.2) (Fr.refl _ _)))

set_option maxHeartbeats 2000000 in
theorem does45 (b c : Nat) (s : PSt) (F G : Nat → Prop) (ak k : Int) (nm : ByteArray) (x t : Int) (w : World) (h : Both w b c s F G) (hi : PInv s) (hk : ak % 7 = 4 ∨ ak % 7 = 5) :
    Calls Try.prog 13 #[.pointer (some ⟨b, 0, none⟩), .pointer (some ⟨c, 0, none⟩), .agg #[.int .i64 ak, .int .u8 k, .string nm, .int .i64 x, .int .i64 t]] w fun e w' => e = .returned (.bool true) ∧ BothPost b c s.next.2 F G w w' := by
  have ht : s.tot ≤ 1000000 := Nat.le_trans hi.tot (by omega)
  have HD := hide (show DoesPre w b c s F G ak k nm x t (w.alloc (.cells #[.int .i64 ak, .int .u8 k, .string nm, .int .i64 x, .int .i64 t] 33)) from
    ⟨h.same (Fr.alloc (Fr.refl _ _) _), heap_alloc_new w _, Fr.alloc (Fr.refl _ _) _, fun hf => by have := h.p.lt _ hf; omega, fun hf => by have := h.r.lt _ hf; omega⟩)
  have h01 : ∃ n : Int, ak % 7 = n ∧ (n == 2) = false ∧ (n == 3) = false ∧ ((n == 4) = true ∨ ((n == 4) = false ∧ (n == 5) = true)) := by
    rcases hk with hk | hk
    · exact ⟨_, hk, by decide, by decide, .inl (by decide)⟩
    · exact ⟨_, hk, by decide, by decide, .inr ⟨by decide, by decide⟩⟩
  obtain ⟨n, hn, n2, n3, n45⟩ := h01
  have HP := hide (fun W => hn ▸ pick7 ak W)
  have HN := hide (next_any b s F _ HD.out.both.p ht)
  have HR : ∀ W : World, PoolAt 61 63 W c s G → Hid (Calls Try.prog 31 #[.pointer (some ⟨c, 0, none⟩)] W fun e w' => e = .returned (nextRes s.next.1) ∧ PoolPost 61 63 c s.next.2 G W w') := fun W hW => rnext_any c s G W hW ht
  have HR' := hide HR
  clear h hk hi hn HR
  generalize s.next = r at *
  obtain ⟨o, s2⟩ := r
  have hv : ∃ (ek : Int) (en : ByteArray) (ea et : Int) (bo : Bool), nextRes o = .tuple #[.agg #[.int .u8 ek, .string en, .int .i64 ea, .int .i64 et], .bool bo] := by
    cases o with
    | none => exact ⟨0, ⟨#[]⟩, 0, 0, false, rfl⟩
    | some e => exact ⟨e.kind, e.name, e.arg, e.at_, true, rfl⟩
  obtain ⟨ek, en, ea, et, bo, hv⟩ := hv
  simp only [hv] at HN HR'
  clear hv
  rcases n45 with n4 | ⟨n4, n5⟩
  all_goals
    go_enter Try.func13, Try.ntmps13
    go_wp2_with (go_at_call 15; refine (HP.out _).mono ?_; rintro e w1 ⟨rfl, rfl⟩)
    refine HN.out.mono ?_
    rintro e w1 ⟨rfl, hp⟩
    have hr1 := hide (hp.other HD.out.both.r HD.out.both.dis)
    have HP1 := hide hp
    have hs1 := hp.size
    clear hp
    go_wp2_with fail
    refine (HR'.out _ (hr1.out.same (Fr.alloc (Fr.refl _ _) _))).out.mono ?_
    rintro e w3 ⟨rfl, hq⟩
    have HQ1 := hide hq
    have hx := hide (hq.block (heap_alloc_new w1 (.cells #[.int .u8 ek, .string en, .int .i64 ea, .int .i64 et] 31)) (fun hg => by have := hr1.out.lt _ hg; omega))
    have hlt : w1.heap.size < w3.heap.size := (Array.getElem?_eq_some_iff.1 hx.out).1
    clear hq
    go_wp2_with fail
    have hx1 := hide ((Below.heap_alloc w3 (.cells #[.int .u8 ek, .string en, .int .i64 ea, .int .i64 et] 63) w1.heap.size hlt).trans hx.out)
    have hx2 := hide (heap_alloc_new w3 (.cells #[.int .u8 ek, .string en, .int .i64 ea, .int .i64 et] 63))
    have F3 := hide (Fr.alloc (Fr.refl (fun _ => False) w3) (.cells #[.int .u8 ek, .string en, .int .i64 ea, .int .i64 et] 63))
    have hlt2 : w3.heap.size < (w3.alloc (.cells #[.int .u8 ek, .string en, .int .i64 ea, .int .i64 et] 63)).heap.size := by simp
    generalize w3.alloc (.cells #[.int .u8 ek, .string en, .int .i64 ea, .int .i64 et] 63) = w4 at *
    obtain ⟨y0, y1, y2, y3⟩ := ev_cells hx1.out
    obtain ⟨u0, u1, u2, u3⟩ := ev_cells hx2.out
    have hlt3 : w1.heap.size < w4.heap.size := by omega
    go_region_held3 (fun w' => (w'.cell? ⟨w1.heap.size, 0, none⟩ = some (.int .u8 ek) ∧ w'.cell? ⟨w1.heap.size, 1, none⟩ = some (.string en) ∧ w'.cell? ⟨w1.heap.size, 2, none⟩ = some (.int .i64 ea) ∧ w'.cell? ⟨w1.heap.size, 3, none⟩ = some (.int .i64 et)) ∧
        (w'.cell? ⟨w3.heap.size, 0, none⟩ = some (.int .u8 ek) ∧ w'.cell? ⟨w3.heap.size, 1, none⟩ = some (.string en) ∧ w'.cell? ⟨w3.heap.size, 2, none⟩ = some (.int .i64 ea) ∧ w'.cell? ⟨w3.heap.size, 3, none⟩ = some (.int .i64 et)))
      (first | exact ⟨ev_cells z1, ev_cells z2⟩ | exact ⟨ev_cells hx1.out, ev_cells hx2.out⟩)
      (first | (go_at_call 29; refine (conv_any ek en ea et _).mono ?_; rintro e w5 ⟨rfl, a5⟩; have z1 := (a5.block w1.heap.size hlt3).trans hx1.out; have z2 := (a5.block w3.heap.size hlt2).trans hx2.out; have F5 : Fr (fun _ => False) w4 w5 := (Fr.drew (Fr.refl _ _)).trans (Fr.of_below' a5)))
    go_wp2_with fail
    go_ret
    refine ⟨by simp, ?_⟩
    exact (BothPost.after HD.out.fr (HD.out.both.post HP1.out (Fr.alloc (Fr.refl _ _) _) HQ1.out (F3.out.trans F5)))

theorem does_any (b c : Nat) (s : PSt) (F G : Nat → Prop) (a : AEv) (w : World) (h : Both w b c s F G) (hi : PInv s) :
    Calls Try.prog 13 #[.pointer (some ⟨b, 0, none⟩), .pointer (some ⟨c, 0, none⟩), .agg #[.int .i64 a.kind, .int .u8 a.ev.kind, .string a.ev.name, .int .i64 a.ev.arg, .int .i64 a.ev.at_]] w fun e w' => e = .returned (.bool true) ∧ BothPost b c (doesS s a) F G w w' := by
  obtain ⟨ak, k, nm, x, t⟩ := a
  unfold doesS
  by_cases h2 : ak % 7 = 2
  · rw [if_pos h2]; exact does2 b c s F G ak k nm x t w h hi h2
  · rw [if_neg h2]
    by_cases h3 : ak % 7 = 3
    · rw [if_pos h3]; exact does3 b c s F G ak k nm x t w h hi h3
    · rw [if_neg h3]
      by_cases h4 : ak % 7 = 4 ∨ ak % 7 = 5
      · rw [if_pos h4]; exact does45 b c s F G ak k nm x t w h hi h4
      · rw [if_neg h4]
        by_cases h6 : ak % 7 = 6
        · rw [if_pos h6]; exact does6 b c s F G ak k nm x t w h hi h6
        · rw [if_neg h6]; exact does01 b c s F G ak k nm x t w h hi (by omega)
end Go.Proofs.Ythfihlojpmhagaa
