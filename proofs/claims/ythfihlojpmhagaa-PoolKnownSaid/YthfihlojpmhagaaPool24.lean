/- PoolOnce: the walk. -/
import Derived.Test.YthfihlojpmhagaaPool23
import Derived.Deep.OwnRows
namespace Go.Proofs.Ythfihlojpmhagaa
open Go.RowKit
attribute [local go_sem ↓] Go.wp_at_zero Go.wp_at_succ

/-- a row of whole numbers in a block of its own -/
def rowO (T : List Int) : Obj := .cells (T.map (Value.int .i64)).toArray 3 (0, 0)
theorem rowO_cell {w : World} {g n : Nat} {x : Int} {T : List Int} (h : w.heap[g]? = some (rowO T)) (hx : T[n]? = some x) : w.cell? ⟨g, n, none⟩ = some (.int .i64 x) := by simp [World.cell?, h, rowO, hx]
theorem rowO_free {w : World} {g n : Nat} {T : List Int} (h : w.heap[g]? = some (rowO T)) : w.frozen? ⟨g, n, none⟩ = false := by simp [World.frozen?, h, rowO]
theorem rowO_set {w : World} {g n : Nat} {T : List Int} (h : w.heap[g]? = some (rowO T)) (x : Int) : (w.setCell ⟨g, n, none⟩ (.int .i64 x)).heap[g]? = some (rowO (T.set n x)) := by
  have hlt := lt_of_block h
  have h' : w.heap[g] = rowO T := by simpa [Array.getElem?_eq_getElem hlt] using h
  show (w.heap.modify g _)[g]? = _
  rw [Array.getElem?_eq_getElem (by simpa using hlt), Array.getElem_modify_self, h']
  simp [rowO]
theorem rowO_made (n : Nat) : (Obj.cells (madeCells #[.int .i64 0] n) 3 (0, 0)) = rowO (List.replicate n 0) := by
  unfold rowO madeCells
  congr 1
  apply Array.ext
  · simp
  · intro i h1 h2
    simp [Nat.mod_one]

theorem PAt.set {w0 w : World} {b : Nat} {s : PSt} {g : Nat} {T : List Int} (h : PAt w0 w b s [(g, rowO T)]) (hg : w0.heap.size ≤ g) (n : Nat) (x : Int) : PAt w0 (w.setCell ⟨g, n, none⟩ (.int .i64 x)) b s [(g, rowO (T.set n x))] := by
  obtain ⟨F, h1, h2, h3, h4⟩ := h
  obtain ⟨h5, h6⟩ := h4 _ (.head _)
  have f : Fr (fun k => k = g) w (w.setCell ⟨g, n, none⟩ (.int .i64 x)) := Fr.setCell (fp := fun k => k = g) (Fr.refl _ _) (p := ⟨g, n, none⟩) (.inl rfl) _
  refine ⟨F, h1.fr f (fun k hk e => h6 (e ▸ hk)), h2, h3.then_ f (fun k hk e => by omega), fun y hy => ?_⟩
  obtain rfl : y = (g, rowO (T.set n x)) := by simpa using hy
  exact ⟨rowO_set h5 x, h6⟩
/-- blocks beside the first one are let go -/
theorem PAt.sub {w0 w : World} {b : Nat} {s : PSt} {K K' : List (Nat × Obj)} (h : PAt w0 w b s K) (hs : ∀ x ∈ K', x ∈ K) : PAt w0 w b s K' := by
  obtain ⟨F, h1, h2, h3, h4⟩ := h
  exact ⟨F, h1, h2, h3, fun x hx => h4 x (hs x hx)⟩
theorem PAt.pool {w0 w : World} {b : Nat} {s : PSt} {K : List (Nat × Obj)} (h : PAt w0 w b s K) : ∃ F, PoolAt 59 31 w b s F := by
  obtain ⟨F, h1, h2, h3, h4⟩ := h
  exact ⟨F, h1⟩
theorem PAt.rows {w0 w : World} {b : Nat} {s : PSt} {K : List (Nat × Obj)} (h : PAt w0 w b s K) (ht : s.tot ≤ 1000000) :
    Calls Try.prog 19 #[.pointer (some ⟨b, 0, none⟩)] w fun e w' => MakesRows w s e w' ∧ PAt w0 w' b s K := by
  obtain ⟨F, h1⟩ := h.pool
  refine (rows_any b s F w h1 ht).mono fun e w' hm => ⟨hm, ?_⟩
  obtain ⟨A0, c0, o0, A1, c1, o1, A2, c2, o2, -, -, -, -, f, -⟩ := hm
  exact h.same f

theorem all_next {all : List Ev} (hnd : (all.map num).Nodup) (hpos : ∀ x ∈ all, 0 ≤ num x) {j : Nat} (hj : j < all.length) {T : List Int} (hT : ∀ x ∈ all.drop j, T[(num x).toNat]? = some 0) :
    T[(num all[j]).toNat]? = some 0 ∧ ∀ x ∈ all.drop (j + 1), (T.set (num all[j]).toNat 1)[(num x).toNat]? = some 0 := by
  rw [List.drop_eq_getElem_cons hj] at hT
  refine ⟨hT _ (List.mem_cons_self ..), fun x hx => ?_⟩
  have h1 := hT x (List.mem_cons_of_mem _ hx)
  have hsub : (((all[j] :: all.drop (j + 1)).map num)).Nodup := by
    rw [← List.drop_eq_getElem_cons hj]
    exact hnd.sublist ((List.drop_sublist j all).map num)
  rw [List.map_cons, List.nodup_cons] at hsub
  have h2 := hpos x (List.mem_of_mem_drop hx)
  have h3 := hpos all[j] (List.getElem_mem hj)
  have hne : (num all[j]).toNat ≠ (num x).toNat := fun hc => hsub.1 (List.mem_map.2 ⟨x, hx, by omega⟩)
  rw [List.getElem?_set_ne hne]
  exact h1
theorem Once.all_sh {i : Nat} {s : PSt} {T : List Int} {dn ot : Int} {df : Bool} (h : Once i s T dn ot df) {x : Ev} (hx : x ∈ s.all) : ∃ n : Nat, n < i ∧ num x = n ∧ ((x.at_ = n ∧ x.arg = 0) ∨ (x.at_ = 0 ∧ x.arg = n)) := by
  have hr := (h.rng x hx).2
  unfold PSt.all at hx
  simp only [List.mem_append] at hx
  rcases hx with (hx | hx) | hx
  · obtain ⟨n, rfl⟩ := h.sh0 x hx
    rw [num_d] at hr
    exact ⟨n, by omega, num_d n, .inl ⟨rfl, rfl⟩⟩
  · obtain ⟨n, rfl | rfl⟩ := h.sh1 x hx
    · rw [num_t] at hr
      exact ⟨n, by omega, num_t n, .inl ⟨rfl, rfl⟩⟩
    · rw [num_c] at hr
      exact ⟨n, by omega, num_c n, .inr ⟨rfl, rfl⟩⟩
  · obtain ⟨n, rfl⟩ := h.sh2 x hx
    rw [num_c] at hr
    exact ⟨n, by omega, num_c n, .inr ⟨rfl, rfl⟩⟩

set_option maxRecDepth 100000 in
set_option maxHeartbeats 8000000 in
theorem once_any (room : Int) (v : Value) (l : List AEv) (w : World) (h : Rd actC w (· < w.heap.size) v l) :
    Calls Try.prog 4 #[.int .i64 room, v] w fun e w' => e = .returned (.bool true) ∧ Below w.heap.size w w' := by
  have H := hide h
  have HFEW := hide (few_any 100 _ v l w h)
  obtain ⟨A, cap, rfl, hlc, hcm, -⟩ := h
  cases hfew : fewB l 100 with
  | false =>
    rw [hfew] at HFEW
    clear hfew
    go_enter Try.func4, Try.ntmps4
    go_wp2_with (first
      | (go_at_call 9; refine HFEW.out.mono ?_; rintro e w1 ⟨rfl, rfl⟩)
      | (go_at_call 10; refine (works_any _).mono ?_; rintro e w2 ⟨rfl, f2⟩))
    go_ret
    exact ⟨rfl, f2.to_below⟩
  | true =>
    rw [hfew] at HFEW
    have hlen : l.length ≤ 100 := by
      simp only [fewB, Bool.and_eq_true, decide_eq_true_eq] at hfew
      omega
    clear hfew
    have hmk := fun (W : World) => run_make_row' (P := Try.prog) 36 3 (.int .i64 0) 8 (by kernel_rfl) (by kernel_rfl) rfl .i64 .i64 l.length (by omega) (by omega) W
    go_enter Try.func4, Try.ntmps4
    go_wp2_with (first
      | (go_at_call 9; refine HFEW.out.mono ?_; rintro e w1 ⟨rfl, rfl⟩)
      | (go_at_call 11; refine (new_any room _).mono ?_; rintro e w1 ⟨rfl, hp, f1, -⟩; have P1 := hide (And.intro hp f1); clear hp f1))
    have P2 : ∀ W, W = w1.alloc (.cells (madeCells #[.int .i64 0] l.length) 3) → Hid (PAt w W w.heap.size ⟨newRoom room, fun _ => []⟩ [(w1.heap.size, rowO (List.replicate l.length 0))]) := by
      rintro W rfl
      have h0 : PAt w w1 w.heap.size ⟨newRoom room, fun _ => []⟩ [] := ⟨_, P1.out.1, fun k hk => by omega, P1.out.2, by simp⟩
      rw [rowO_made]
      exact h0.alloc _
    have hg : w.heap.size ≤ w1.heap.size := P1.out.2.size
    go_loopw [7, 8, 9, 10] (fun d o f i wr => ∃ (k : Nat) (s : PSt) (T : List Int) (dn ot : Int) (df : Bool), k ≤ l.length ∧ i = .int .i64 k ∧ d = .int .i64 dn ∧ o = .int .i64 ot ∧ f = .bool df ∧ Hid (PAt w wr w.heap.size s [(w1.heap.size, rowO T)]) ∧ Hid (Once k s T dn ot df) ∧ Hid (T.length = l.length)) (fun _ _ _ i _ => l.length - (intOf i).toNat)
    case atStart => exact ⟨0, _, _, _, _, _, Nat.zero_le _, rfl, rfl, rfl, rfl, P2 _ rfl, Once.start room l.length, by simp [Hid]⟩
    case round =>
    obtain ⟨k, s, T, dn, ot, df, hk, rfl, rfl, rfl, rfl, hP, hO, hT⟩ := hrel
    have ht := hO.out.tot
    clear P1 P2
    by_cases hlt : k < l.length
    · obtain ⟨g, off, cap', hv, hgs, q0, q1, q2, q3, q4⟩ := rd_act (H.out.below hP.out.fr.to_below) hlt
      simp only [Value.slice.injEq, true_and] at hv
      obtain ⟨rfl, rfl⟩ := hv
      have hki : (k : Int) < (l.length : Int) := by omega
      have hkT := hide (show k < T.length by rw [hT.out]; exact hlt)
      generalize l[k] = a at *
      clear q1 q2 q3 q4 hgs
      have h7 : a.kind % 7 = 0 ∨ a.kind % 7 = 1 ∨ a.kind % 7 = 2 ∨ a.kind % 7 = 3 ∨ ∃ n, a.kind % 7 = n ∧ (n == 0) = false ∧ (n == 1) = false ∧ (n == 2) = false ∧ (n == 3) = false := by
        by_cases h0 : a.kind % 7 = 0
        · exact .inl h0
        by_cases h1 : a.kind % 7 = 1
        · exact .inr (.inl h1)
        by_cases h2 : a.kind % 7 = 2
        · exact .inr (.inr (.inl h2))
        by_cases h3 : a.kind % 7 = 3
        · exact .inr (.inr (.inr (.inl h3)))
        exact .inr (.inr (.inr (.inr ⟨_, rfl, by simpa using h0, by simpa using h1, by simpa using h2, by simpa using h3⟩)))
      rcases h7 with hkd | hkd | hkd | hkd | ⟨m7, hkd, n0, n1, n2, n3⟩
      · have HP := hide (fun W => hkd ▸ pick7 a.kind W)
        clear hkd
        go_wp2_with (first
          | (go_at_call 15; refine (HP.out _).mono ?_; rintro e v1 ⟨rfl, rfl⟩)
          | (go_at_call 16; refine (hP.out.step (v := .int .i64 (putS s (dEv k)).1) (s' := (putS s (dEv k)).2) (fun F h => put_any _ s F 1 ⟨#[]⟩ 0 k _ h ht) rfl (fun _ _ => rfl)).mono ?_; rintro e v2 ⟨rfl, p2⟩; have P2 := hide p2; clear p2))
        go_roundw
        case rel => exact ⟨k + 1, _, _, _, _, _, by omega, by go_num, rfl, rfl, rfl, P2.out, (hO.out.put hkT.out).1, hT.out⟩
        case measure => simp [intOf]; omega
      · have HP := hide (fun W => hkd ▸ pick7 a.kind W)
        clear hkd
        go_wp2_with (first
          | (go_at_call 15; refine (HP.out _).mono ?_; rintro e v1 ⟨rfl, rfl⟩)
          | (go_at_call 16; refine (hP.out.step (v := .int .i64 (putS s (tEv k)).1) (s' := (putS s (tEv k)).2) (fun F h => put_any _ s F 3 ⟨#[]⟩ 0 k _ h ht) rfl (fun _ _ => rfl)).mono ?_; rintro e v2 ⟨rfl, p2⟩; have P2 := hide p2; clear p2))
        go_roundw
        case rel => exact ⟨k + 1, _, _, _, _, _, by omega, by go_num, rfl, rfl, rfl, P2.out, (hO.out.put hkT.out).2, hT.out⟩
        case measure => simp [intOf]; omega
      · have HP := hide (fun W => hkd ▸ pick7 a.kind W)
        clear hkd
        go_wp2_with (first
          | (go_at_call 15; refine (HP.out _).mono ?_; rintro e v1 ⟨rfl, rfl⟩)
          | (go_at_call 17; refine (hP.out.step (v := .int .i64 (deferS s (cEv k)).1) (s' := (deferS s (cEv k)).2) (fun F h => defer_any _ s F 2 ⟨#[97]⟩ k 0 _ h ht) rfl (fun _ _ => rfl)).mono ?_; rintro e v2 ⟨rfl, p2⟩; have P2 := hide p2; clear p2))
        go_roundw
        case rel => exact ⟨k + 1, _, _, _, _, true, by omega, by go_num, rfl, rfl, rfl, P2.out, hO.out.defer hkT.out, hT.out⟩
        case measure => simp [intOf]; omega
      · have HP := hide (fun W => hkd ▸ pick7 a.kind W)
        clear hkd
        go_wp2_with (first
          | (go_at_call 15; refine (HP.out _).mono ?_; rintro e v1 ⟨rfl, rfl⟩)
          | (go_at_call 18; refine (hP.out.step (v := .int .i64 ((s.L 2).length : Nat)) (s' := s.recall) (fun F h => recall_any _ s F _ h ht) rfl (fun _ _ => rfl)).mono ?_; rintro e v2 ⟨rfl, p2⟩; have P2 := hide p2; clear p2))
        go_roundw
        case rel => exact ⟨k + 1, _, _, _, _, _, by omega, by go_num, rfl, rfl, rfl, P2.out, hO.out.recall, hT.out⟩
        case measure => simp [intOf]; omega
      · have HP := hide (fun W => hkd ▸ pick7 a.kind W)
        clear hkd
        cases h0 : s.L 0 with
        | cons e0 lr =>
          obtain ⟨n, rfl⟩ := hO.out.sh0 e0 (by rw [h0]; exact List.mem_cons_self ..)
          have hnx : s.next = (some (dEv n), ⟨s.room, upd s.L 0 lr⟩) := by simp [PSt.next, h0]
          obtain ⟨⟨hnk, hnl, hTn, hdn⟩, HO2⟩ := hO.out.next0 h0
          have HO2 := hide HO2
          have hTn := hide hTn
          rw [hT.out] at hnl
          have hl0 : 0 < (s.L 0).length := by rw [h0]; simp
          clear h0
          have HN := hide (show ∀ (W : World) (F : Nat → Prop), PoolAt 59 31 W w.heap.size s F → Calls Try.prog 20 #[.pointer (some ⟨w.heap.size, 0, none⟩)] W fun e w' => e = .returned (.tuple #[.agg #[.int .u8 1, .string ⟨#[]⟩, .int .i64 0, .int .i64 n], .bool true]) ∧ PoolPost 59 31 w.heap.size ⟨s.room, upd s.L 0 lr⟩ F W w' from fun W F hW => by
            have := next_any w.heap.size s F W hW ht
            rw [hnx] at this
            exact this)
          clear hnx
          go_wp2_with (first
            | (go_at_call 15; refine (HP.out _).mono ?_; rintro e v1 ⟨rfl, rfl⟩)
            | (go_at_call 19; refine (hP.out.rows ht).mono ?_; rintro e v1 ⟨⟨A0, c0, o0, A1, c1, o1, A2, c2, o2, rfl, -⟩, p1⟩; have P1 := hide p1; clear p1))
          refine (P1.out.step (v := .tuple #[.agg #[.int .u8 1, .string ⟨#[]⟩, .int .i64 0, .int .i64 n], .bool true]) (s' := ⟨s.room, upd s.L 0 lr⟩) (fun F h => HN.out _ F h) rfl (fun _ _ => rfl)).mono ?_
          rintro e v2 ⟨rfl, p2⟩
          have P2 := hide (p2.alloc (.cells #[.int .u8 1, .string ⟨#[]⟩, .int .i64 0, .int .i64 n] 31))
          clear p2
          obtain ⟨y0, y1, y2, y3⟩ := ev_cells (P2.out.blk (.head _))
          have q0 := rowO_cell (P2.out.blk (.tail _ (.head _))) hTn.out
          have z0 : (v2.alloc (.cells #[.int .u8 1, .string ⟨#[]⟩, .int .i64 0, .int .i64 n] 31)).frozen? ⟨w1.heap.size, n, none⟩ = false := rowO_free (P2.out.blk (.tail _ (.head _)))
          have hgv : w1.heap.size ≠ v2.heap.size := fun hc => by
            have h1 := P2.out.blk (.tail _ (.head _))
            have h2 := P2.out.blk (.head _)
            rw [hc] at h1
            rw [h1] at h2
            simp [rowO] at h2
          have y0' : ((v2.alloc (.cells #[.int .u8 1, .string ⟨#[]⟩, .int .i64 0, .int .i64 n] 31)).setCell ⟨w1.heap.size, n, none⟩ (.int .i64 1)).cell? ⟨v2.heap.size, 0, none⟩ = some (.int .u8 1) := by
            exact (World.cell?_of_block (Below.heap_setCell _ _ _ _ (Ne.symm hgv))).trans y0
          go_wp2_with fail
          go_roundw
          case rel => exact ⟨k + 1, _, T.set n 1, n, _, _, by omega, by go_num, rfl, rfl, rfl, (P2.out.sub (fun x hx => List.mem_cons_of_mem _ hx)).set hg n 1, HO2.out, by have := hT.out; simpa [Hid] using this⟩
          case measure => simp [intOf]; omega
        | nil =>
        have hl0 : (s.L 0).length ≤ 0 := by rw [h0]; simp
        cases h1 : s.L 1 with
        | cons e0 lr =>
          obtain ⟨n, rfl | rfl⟩ := hO.out.sh1 e0 (by rw [h1]; exact List.mem_cons_self ..)
          · have hnx : s.next = (some (tEv n), ⟨s.room, upd s.L 1 lr⟩) := by simp [PSt.next, h0, h1]
            obtain ⟨⟨hnk, hnl, hTn, hot⟩, HO2⟩ := hO.out.next1 (num_t n) h0 h1
            have HO2 := hide HO2
            have hTn := hide hTn
            rw [hT.out] at hnl
            clear h0 h1
            cases df with
            | true =>
              clear hot
              have HN := hide (show ∀ (W : World) (F : Nat → Prop), PoolAt 59 31 W w.heap.size s F → Calls Try.prog 20 #[.pointer (some ⟨w.heap.size, 0, none⟩)] W fun e w' => e = .returned (.tuple #[.agg #[.int .u8 3, .string ⟨#[]⟩, .int .i64 0, .int .i64 n], .bool true]) ∧ PoolPost 59 31 w.heap.size ⟨s.room, upd s.L 1 lr⟩ F W w' from fun W F hW => by
                have := next_any w.heap.size s F W hW ht
                rw [hnx] at this
                exact this)
              clear hnx
              go_wp2_with (first
                | (go_at_call 15; refine (HP.out _).mono ?_; rintro e v1 ⟨rfl, rfl⟩)
                | (go_at_call 19; refine (hP.out.rows ht).mono ?_; rintro e v1 ⟨⟨A0, c0, o0, A1, c1, o1, A2, c2, o2, rfl, -⟩, p1⟩; have P1 := hide p1; clear p1))
              refine (P1.out.step (v := .tuple #[.agg #[.int .u8 3, .string ⟨#[]⟩, .int .i64 0, .int .i64 n], .bool true]) (s' := ⟨s.room, upd s.L 1 lr⟩) (fun F h => HN.out _ F h) rfl (fun _ _ => rfl)).mono ?_
              rintro e v2 ⟨rfl, p2⟩
              have P2 := hide (p2.alloc (.cells #[.int .u8 3, .string ⟨#[]⟩, .int .i64 0, .int .i64 n] 31))
              clear p2
              obtain ⟨y0, y1, y2, y3⟩ := ev_cells (P2.out.blk (.head _))
              have q0 := rowO_cell (P2.out.blk (.tail _ (.head _))) hTn.out
              have z0 : (v2.alloc (.cells #[.int .u8 3, .string ⟨#[]⟩, .int .i64 0, .int .i64 n] 31)).frozen? ⟨w1.heap.size, n, none⟩ = false := rowO_free (P2.out.blk (.tail _ (.head _)))
              have hgv : w1.heap.size ≠ v2.heap.size := fun hc => by
                have h1 := P2.out.blk (.tail _ (.head _))
                have h2 := P2.out.blk (.head _)
                rw [hc] at h1
                rw [h1] at h2
                simp [rowO] at h2
              have y0' : ((v2.alloc (.cells #[.int .u8 3, .string ⟨#[]⟩, .int .i64 0, .int .i64 n] 31)).setCell ⟨w1.heap.size, n, none⟩ (.int .i64 1)).cell? ⟨v2.heap.size, 0, none⟩ = some (.int .u8 3) := by
                exact (World.cell?_of_block (Below.heap_setCell _ _ _ _ (Ne.symm hgv))).trans y0
              go_wp2_with fail
              go_roundw
              case rel => exact ⟨k + 1, _, T.set n 1, _, n, _, by omega, by go_num, rfl, rfl, rfl, (P2.out.sub (fun x hx => List.mem_cons_of_mem _ hx)).set hg n 1, HO2.out, by have := hT.out; simpa [Hid] using this⟩
              case measure => simp [intOf]; omega
            | false =>
              have hot := hot rfl
              have HN := hide (show ∀ (W : World) (F : Nat → Prop), PoolAt 59 31 W w.heap.size s F → Calls Try.prog 20 #[.pointer (some ⟨w.heap.size, 0, none⟩)] W fun e w' => e = .returned (.tuple #[.agg #[.int .u8 3, .string ⟨#[]⟩, .int .i64 0, .int .i64 n], .bool true]) ∧ PoolPost 59 31 w.heap.size ⟨s.room, upd s.L 1 lr⟩ F W w' from fun W F hW => by
                have := next_any w.heap.size s F W hW ht
                rw [hnx] at this
                exact this)
              clear hnx
              go_wp2_with (first
                | (go_at_call 15; refine (HP.out _).mono ?_; rintro e v1 ⟨rfl, rfl⟩)
                | (go_at_call 19; refine (hP.out.rows ht).mono ?_; rintro e v1 ⟨⟨A0, c0, o0, A1, c1, o1, A2, c2, o2, rfl, -⟩, p1⟩; have P1 := hide p1; clear p1))
              refine (P1.out.step (v := .tuple #[.agg #[.int .u8 3, .string ⟨#[]⟩, .int .i64 0, .int .i64 n], .bool true]) (s' := ⟨s.room, upd s.L 1 lr⟩) (fun F h => HN.out _ F h) rfl (fun _ _ => rfl)).mono ?_
              rintro e v2 ⟨rfl, p2⟩
              have P2 := hide (p2.alloc (.cells #[.int .u8 3, .string ⟨#[]⟩, .int .i64 0, .int .i64 n] 31))
              clear p2
              obtain ⟨y0, y1, y2, y3⟩ := ev_cells (P2.out.blk (.head _))
              have q0 := rowO_cell (P2.out.blk (.tail _ (.head _))) hTn.out
              have z0 : (v2.alloc (.cells #[.int .u8 3, .string ⟨#[]⟩, .int .i64 0, .int .i64 n] 31)).frozen? ⟨w1.heap.size, n, none⟩ = false := rowO_free (P2.out.blk (.tail _ (.head _)))
              have hgv : w1.heap.size ≠ v2.heap.size := fun hc => by
                have h1 := P2.out.blk (.tail _ (.head _))
                have h2 := P2.out.blk (.head _)
                rw [hc] at h1
                rw [h1] at h2
                simp [rowO] at h2
              have y0' : ((v2.alloc (.cells #[.int .u8 3, .string ⟨#[]⟩, .int .i64 0, .int .i64 n] 31)).setCell ⟨w1.heap.size, n, none⟩ (.int .i64 1)).cell? ⟨v2.heap.size, 0, none⟩ = some (.int .u8 3) := by
                exact (World.cell?_of_block (Below.heap_setCell _ _ _ _ (Ne.symm hgv))).trans y0
              go_wp2_with fail
              go_roundw
              case rel => exact ⟨k + 1, _, T.set n 1, _, n, _, by omega, by go_num, rfl, rfl, rfl, (P2.out.sub (fun x hx => List.mem_cons_of_mem _ hx)).set hg n 1, HO2.out, by have := hT.out; simpa [Hid] using this⟩
              case measure => simp [intOf]; omega
          · have hnx : s.next = (some (cEv n), ⟨s.room, upd s.L 1 lr⟩) := by simp [PSt.next, h0, h1]
            obtain ⟨⟨hnk, hnl, hTn, hot⟩, HO2⟩ := hO.out.next1 (num_c n) h0 h1
            have HO2 := hide HO2
            have hTn := hide hTn
            rw [hT.out] at hnl
            clear h0 h1
            cases df with
            | true =>
              clear hot
              have HN := hide (show ∀ (W : World) (F : Nat → Prop), PoolAt 59 31 W w.heap.size s F → Calls Try.prog 20 #[.pointer (some ⟨w.heap.size, 0, none⟩)] W fun e w' => e = .returned (.tuple #[.agg #[.int .u8 2, .string ⟨#[97]⟩, .int .i64 n, .int .i64 0], .bool true]) ∧ PoolPost 59 31 w.heap.size ⟨s.room, upd s.L 1 lr⟩ F W w' from fun W F hW => by
                have := next_any w.heap.size s F W hW ht
                rw [hnx] at this
                exact this)
              clear hnx
              go_wp2_with (first
                | (go_at_call 15; refine (HP.out _).mono ?_; rintro e v1 ⟨rfl, rfl⟩)
                | (go_at_call 19; refine (hP.out.rows ht).mono ?_; rintro e v1 ⟨⟨A0, c0, o0, A1, c1, o1, A2, c2, o2, rfl, -⟩, p1⟩; have P1 := hide p1; clear p1))
              refine (P1.out.step (v := .tuple #[.agg #[.int .u8 2, .string ⟨#[97]⟩, .int .i64 n, .int .i64 0], .bool true]) (s' := ⟨s.room, upd s.L 1 lr⟩) (fun F h => HN.out _ F h) rfl (fun _ _ => rfl)).mono ?_
              rintro e v2 ⟨rfl, p2⟩
              have P2 := hide (p2.alloc (.cells #[.int .u8 2, .string ⟨#[97]⟩, .int .i64 n, .int .i64 0] 31))
              clear p2
              obtain ⟨y0, y1, y2, y3⟩ := ev_cells (P2.out.blk (.head _))
              have q0 := rowO_cell (P2.out.blk (.tail _ (.head _))) hTn.out
              have z0 : (v2.alloc (.cells #[.int .u8 2, .string ⟨#[97]⟩, .int .i64 n, .int .i64 0] 31)).frozen? ⟨w1.heap.size, n, none⟩ = false := rowO_free (P2.out.blk (.tail _ (.head _)))
              have hgv : w1.heap.size ≠ v2.heap.size := fun hc => by
                have h1 := P2.out.blk (.tail _ (.head _))
                have h2 := P2.out.blk (.head _)
                rw [hc] at h1
                rw [h1] at h2
                simp [rowO] at h2
              have y0' : ((v2.alloc (.cells #[.int .u8 2, .string ⟨#[97]⟩, .int .i64 n, .int .i64 0] 31)).setCell ⟨w1.heap.size, n, none⟩ (.int .i64 1)).cell? ⟨v2.heap.size, 0, none⟩ = some (.int .u8 2) := by
                exact (World.cell?_of_block (Below.heap_setCell _ _ _ _ (Ne.symm hgv))).trans y0
              go_wp2_with fail
              go_roundw
              case rel => exact ⟨k + 1, _, T.set n 1, _, n, _, by omega, by go_num, rfl, rfl, rfl, (P2.out.sub (fun x hx => List.mem_cons_of_mem _ hx)).set hg n 1, HO2.out, by have := hT.out; simpa [Hid] using this⟩
              case measure => simp [intOf]; omega
            | false =>
              have hot := hot rfl
              have HN := hide (show ∀ (W : World) (F : Nat → Prop), PoolAt 59 31 W w.heap.size s F → Calls Try.prog 20 #[.pointer (some ⟨w.heap.size, 0, none⟩)] W fun e w' => e = .returned (.tuple #[.agg #[.int .u8 2, .string ⟨#[97]⟩, .int .i64 n, .int .i64 0], .bool true]) ∧ PoolPost 59 31 w.heap.size ⟨s.room, upd s.L 1 lr⟩ F W w' from fun W F hW => by
                have := next_any w.heap.size s F W hW ht
                rw [hnx] at this
                exact this)
              clear hnx
              go_wp2_with (first
                | (go_at_call 15; refine (HP.out _).mono ?_; rintro e v1 ⟨rfl, rfl⟩)
                | (go_at_call 19; refine (hP.out.rows ht).mono ?_; rintro e v1 ⟨⟨A0, c0, o0, A1, c1, o1, A2, c2, o2, rfl, -⟩, p1⟩; have P1 := hide p1; clear p1))
              refine (P1.out.step (v := .tuple #[.agg #[.int .u8 2, .string ⟨#[97]⟩, .int .i64 n, .int .i64 0], .bool true]) (s' := ⟨s.room, upd s.L 1 lr⟩) (fun F h => HN.out _ F h) rfl (fun _ _ => rfl)).mono ?_
              rintro e v2 ⟨rfl, p2⟩
              have P2 := hide (p2.alloc (.cells #[.int .u8 2, .string ⟨#[97]⟩, .int .i64 n, .int .i64 0] 31))
              clear p2
              obtain ⟨y0, y1, y2, y3⟩ := ev_cells (P2.out.blk (.head _))
              have q0 := rowO_cell (P2.out.blk (.tail _ (.head _))) hTn.out
              have z0 : (v2.alloc (.cells #[.int .u8 2, .string ⟨#[97]⟩, .int .i64 n, .int .i64 0] 31)).frozen? ⟨w1.heap.size, n, none⟩ = false := rowO_free (P2.out.blk (.tail _ (.head _)))
              have hgv : w1.heap.size ≠ v2.heap.size := fun hc => by
                have h1 := P2.out.blk (.tail _ (.head _))
                have h2 := P2.out.blk (.head _)
                rw [hc] at h1
                rw [h1] at h2
                simp [rowO] at h2
              have y0' : ((v2.alloc (.cells #[.int .u8 2, .string ⟨#[97]⟩, .int .i64 n, .int .i64 0] 31)).setCell ⟨w1.heap.size, n, none⟩ (.int .i64 1)).cell? ⟨v2.heap.size, 0, none⟩ = some (.int .u8 2) := by
                exact (World.cell?_of_block (Below.heap_setCell _ _ _ _ (Ne.symm hgv))).trans y0
              go_wp2_with fail
              go_roundw
              case rel => exact ⟨k + 1, _, T.set n 1, _, n, _, by omega, by go_num, rfl, rfl, rfl, (P2.out.sub (fun x hx => List.mem_cons_of_mem _ hx)).set hg n 1, HO2.out, by have := hT.out; simpa [Hid] using this⟩
              case measure => simp [intOf]; omega
        | nil =>
          have hnx : s.next = (none, s) := by simp [PSt.next, h0, h1]
          clear h0 h1
          have HN := hide (show ∀ (W : World) (F : Nat → Prop), PoolAt 59 31 W w.heap.size s F → Calls Try.prog 20 #[.pointer (some ⟨w.heap.size, 0, none⟩)] W fun e w' => e = .returned (.tuple #[.agg #[.int .u8 0, .string ⟨#[]⟩, .int .i64 0, .int .i64 0], .bool false]) ∧ PoolPost 59 31 w.heap.size s F W w' from fun W F hW => by
            have := next_any w.heap.size s F W hW ht
            rw [hnx] at this
            exact this)
          clear hnx
          go_wp2_with (first
            | (go_at_call 15; refine (HP.out _).mono ?_; rintro e v1 ⟨rfl, rfl⟩)
            | (go_at_call 19; refine (hP.out.rows ht).mono ?_; rintro e v1 ⟨⟨A0, c0, o0, A1, c1, o1, A2, c2, o2, rfl, -⟩, p1⟩; have P1 := hide p1; clear p1))
          refine (P1.out.step (v := .tuple #[.agg #[.int .u8 0, .string ⟨#[]⟩, .int .i64 0, .int .i64 0], .bool false]) (s' := s) (fun F h => HN.out _ F h) rfl (fun _ _ => rfl)).mono ?_
          rintro e v2 ⟨rfl, p2⟩
          have P2 := hide (p2.alloc (.cells #[.int .u8 0, .string ⟨#[]⟩, .int .i64 0, .int .i64 0] 31))
          clear p2
          go_wp2_with fail
          go_roundw
          case rel => exact ⟨k + 1, _, _, _, _, _, by omega, by go_num, rfl, rfl, rfl, P2.out.sub (fun x hx => List.mem_cons_of_mem _ hx), hO.out.mono, hT.out⟩
          case measure => simp [intOf]; omega
    obtain rfl : k = l.length := by omega
    have l0 := s.le_tot (i := 0) (by omega)
    have l1 := s.le_tot (i := 1) (by omega)
    have l2 := s.le_tot (i := 2) (by omega)
    clear hlt hmk
    go_wp2_with fail
    refine (hP.out.rows ht).mono ?_
    rintro e v1 ⟨⟨A0, c0, o0, A1, c1, o1, A2, c2, o2, rfl, m0, m1, m2, f3, hn, d01, d02, d12⟩, p1⟩
    have P1 := hide p1
    have M0 := hide m0
    have M1 := hide m1
    have M2 := hide m2
    clear p1 m0 m1 m2 f3 hn d01 d02 d12
    go_wp2_with (first
      | (at_builtin; refine wpList_append_Own rfl rfl el_ev (by rfl) (by rfl) N2.out.1 (M2.out.rd.fr N2.out.2.1 (fun k hk => ⟨M2.out.lt k hk, fun h => h⟩)) (by (try simp); omega) ?_; intro B3 d3 x3 o3 m3 g3 n3
         have N3 := hide (show Own evC x3 31 (.slice B3 ((s.L 0).length + (s.L 1).length + (s.L 2).length) d3) o3 s.all ∧ Fr (fun _ => False) v1 x3 ∧ ∀ k, o3 = some k → v1.heap.size ≤ k from ⟨by rw [List.length_append] at m3; exact m3, N2.out.2.1.then_ g3 (fun k hk e => by have := N2.out.2.2 k e; omega), fun k hk => by
           rcases n3 k hk with h1 | h1
           · exact N2.out.2.2 k h1
           · exact Nat.le_trans N2.out.2.1.size h1.1⟩)
         clear m3 g3 n3)
      | (at_builtin; refine wpList_append_Own rfl rfl el_ev (by rfl) (by rfl) N1.out.1 (M1.out.rd.fr N1.out.2.1 (fun k hk => ⟨M1.out.lt k hk, fun h => h⟩)) (by (try simp); omega) ?_; intro B2 d2 x2 o2' m2 g2 n2
         have N2 := hide (show Own evC x2 31 (.slice B2 ((s.L 0).length + (s.L 1).length) d2) o2' (s.L 0 ++ s.L 1) ∧ Fr (fun _ => False) v1 x2 ∧ ∀ k, o2' = some k → v1.heap.size ≤ k from ⟨m2, N1.out.2.1.then_ g2 (fun k hk e => by have := N1.out.2.2 k e; omega), fun k hk => by
           rcases n2 k hk with h1 | h1
           · exact N1.out.2.2 k h1
           · exact Nat.le_trans N1.out.2.1.size h1.1⟩)
         clear m2 g2 n2)
      | (at_builtin; refine wpList_append_Own rfl rfl el_ev (by rfl) (by rfl) (Own.nil_ evC v1 _ none) M0.out.rd (by (try simp); omega) ?_; intro B1 d1 x1 o1' m1 g1 n1
         have N1 := hide (show Own evC x1 31 (.slice B1 (s.L 0).length d1) o1' (s.L 0) ∧ Fr (fun _ => False) v1 x1 ∧ ∀ k, o1' = some k → v1.heap.size ≤ k from ⟨by simpa only [List.nil_append, List.length_nil, Nat.zero_add] using m1, g1.mono (fun k hk => by cases hk), fun k hk => by
           rcases n1 k hk with h1 | h1
           · cases h1
           · exact h1.1⟩)
         clear m1 g1 n1))
    have HAP := hide (show Own evC x3 31 (.slice B3 ((s.L 0).length + (s.L 1).length + (s.L 2).length) d3) o3 s.all ∧ PAt w x3 w.heap.size s [(w1.heap.size, rowO T)] ∧ o3 ≠ some w1.heap.size from ⟨N3.out.1, P1.out.same N3.out.2.1, fun hc => by
      have h1 := N3.out.2.2 _ hc
      have h2 := lt_of_block (P1.out.blk (.head _))
      omega⟩)
    have hal : s.all.length = (s.L 0).length + (s.L 1).length + (s.L 2).length := by unfold PSt.all; simp only [List.length_append]
    have HAL := hide hal
    have htot : s.tot = (s.L 0).length + (s.L 1).length + (s.L 2).length := rfl
    have hroom := hO.out.fits
    rw [htot] at hroom
    have HTOT := hide htot
    clear htot hal N1 N2 N3 M0 M1 M2 P1 hP
    go_loopw [21] (fun i wr => ∃ (j : Nat) (T' : List Int), j ≤ (s.L 0).length + (s.L 1).length + (s.L 2).length ∧ i = .int .i64 j ∧ Hid (PAt w wr w.heap.size s [(w1.heap.size, rowO T')]) ∧ Hid (Fr (fun k => k = w1.heap.size) x3 wr) ∧ Hid (T'.length = l.length ∧ ∀ x ∈ s.all.drop j, T'[(num x).toNat]? = some 0)) (fun i _ => (s.L 0).length + (s.L 1).length + (s.L 2).length - (intOf i).toNat)
    case atStart => exact ⟨0, T, Nat.zero_le _, rfl, HAP.out.2.1, Fr.refl _ _, hT.out, fun x hx => hO.out.told x (by simpa using hx)⟩
    case round =>
    obtain ⟨j, T', hj, rfl, hQ, hF, hT'⟩ := hrel
    by_cases hlt : j < (s.L 0).length + (s.L 1).length + (s.L 2).length
    · have hja : j < s.all.length := by rw [HAL.out]; exact hlt
      obtain ⟨g, off, cap', hv, -, -, hgs, hc⟩ := ((HAP.out.1.fr hF.out (fun k hk e => HAP.out.2.2 (e ▸ hk))).rd).at_ hja
      simp only [Value.slice.injEq] at hv
      obtain ⟨rfl, -, rfl⟩ := hv
      have HX := hide (all_next hO.out.nodup (fun x hx => (hO.out.rng x hx).1) hja hT'.out.2)
      have HSH := hO.out.all_sh (List.getElem_mem hja)
      have c2 := hc 2 (by decide)
      have c3 := hc 3 (by decide)
      generalize s.all[j] = x at *
      obtain ⟨n, hnk, hnum, hsh⟩ := HSH
      obtain ⟨ek, en, ea, et⟩ := x
      simp only [evC, List.getElem?_cons_zero, List.getElem?_cons_succ, ← Nat.add_assoc] at c2 c3
      rw [hnum] at HX
      simp only [Int.toNat_natCast] at HX
      clear hnum hc hgs
      have q0 := rowO_cell (hQ.out.blk (.head _)) HX.out.1
      have z0 : wr.frozen? ⟨w1.heap.size, n, none⟩ = false := rowO_free (hQ.out.blk (.head _))
      simp only at hsh
      rcases hsh with ⟨rfl, rfl⟩ | ⟨rfl, rfl⟩
      all_goals
        go_wp2_with fail
        go_quiet (fail)
        go_wp2_with fail
        go_roundw
        case rel => exact ⟨j + 1, T'.set n 1, by omega, by go_num, (hQ.out.same (Fr.drewN (Fr.refl _ _) _)).set hg n 1, (hF.out.drewN _).setCell (p := ⟨w1.heap.size, n, none⟩) (.inl rfl) _, by have := hT'.out.1; simpa using this, HX.out.2⟩
        case measure => simp [intOf]; omega
    obtain rfl : j = (s.L 0).length + (s.L 1).length + (s.L 2).length := by omega
    obtain ⟨F, hpool⟩ := hQ.out.pool
    have HLEN := hide (len_any w.heap.size s F wr hpool ht)
    have HROOM := hide (room_any w.heap.size s F wr hpool)
    rw [HTOT.out] at HLEN
    clear hpool
    go_wp2_with (first
      | (go_at_call 21; refine HLEN.out.mono ?_; rintro e y1 ⟨rfl, rfl⟩)
      | (go_at_call 22; refine HROOM.out.mono ?_; rintro e y1 ⟨rfl, rfl⟩)
      | (go_at_call 10; refine (works_any _).mono ?_; rintro e v3 ⟨rfl, f3⟩))
    go_ret
    exact ⟨rfl, (hQ.out.fr.trans f3).to_below⟩
end Go.Proofs.Ythfihlojpmhagaa
