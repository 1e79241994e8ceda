/- token: of a text that is cut, and another one that begins with a tag, the tokens are both's. -/
import Derived.Test.YtalbehjjgdedcaaGreatDoorEnt5
import Derived.Lib.IndexBytes
import Derived.Test.YtalbehjjgdedcaaGreatDoorTokR
import Derived.Test.YtalbehjjgdedcaaGreatDoorLawD
namespace Go.Proofs.YtalbehjjgdedcaaGreatDoor
open Go.RowKit Go.Lib
attribute [local go_sem ↓] Go.wp_at_zero Go.wp_at_succ

set_option maxRecDepth 100000 in
set_option maxHeartbeats 4000000 in
theorem rnext_big (s : ByteArray) (w : World) (hs : s.size ≤ 9223372036854775807) : Calls Tryz.prog 45 #[.string s] w fun e w' =>
    e = .returned (.tuple #[.int .i64 (nextR s.data.toList).1, .int .i64 (nextR s.data.toList).2.1, .int .i64 (nextR s.data.toList).2.2]) ∧ Fr (fun _ => False) w w' := by
  have hl : s.data.toList.length = s.size := rfl
  obtain ⟨r1, r2, r3, hr⟩ : ∃ a b c, nextR s.data.toList = (a, b, c) := ⟨_, _, _, rfl⟩
  rw [hr]
  have HR := hide hr
  clear hr
  by_cases h1 : 1 ≤ s.size
  · have hE := ne_empty h1
    have hE2 := ne_nil h1
    go_enter Tryz.func45, Tryz.ntmps45
    go_wp2_with fail
    go_loopw [5] (fun i wr => ∃ k : Nat, 1 ≤ k ∧ k ≤ 5 ∧ i = .int .i64 k ∧ Hid (Fr (fun _ => False) w wr) ∧ Hid (∀ m, m < k → refOk s.data.toList m = false)) (fun i _ => 5 - (Go.RowKit.intOf i).toNat)
    case atStart => exact ⟨1, by omega, by omega, rfl, Fr.refl _ _, fun m hm => by simp [refOk]; omega⟩
    case round =>
      obtain ⟨k, hk1, hk5, rfl, hfr, hno⟩ := hrel
      by_cases hk : k ≤ 4 ∧ k ≤ s.size
      · obtain ⟨hk4, hks⟩ := hk
        have HN := hide (rnum_any s k wr hk1 hk4 hks)
        have HS : Hid (∀ m, m < k + 1 → m ≠ k → refOk s.data.toList m = false) := fun m hm hne => hno.out m (by omega)
        cases hc : isC (refNum s.data.toList k) with
        | false =>
          have hok := hide (show refOk s.data.toList k = false by simp [refOk, hc])
          have HI := fun W => ris_any (refNum s.data.toList k) W
          rw [hc] at HI
          have HI := hide HI
          clear hc
          generalize refNum s.data.toList k = c at *
          go_wp2_with fail
          refine HN.out.mono ?_
          rintro e w1 ⟨rfl, f1⟩
          go_wp2_with fail
          go_quiet ((go_at_call 87; exact quiet_left (HI.out _)))
          go_wp2_with fail
          go_roundw
          case rel => exact ⟨k + 1, by omega, by omega, by go_num, (hfr.out.trans f1).drewN _, fun m hm => by
            by_cases hmk : m = k
            · rw [hmk]; exact hok.out
            · exact HS.out m hm hmk⟩
          case measure => simp [Go.RowKit.intOf]; omega
        | true =>
          have HI := fun W => ris_any (refNum s.data.toList k) W
          rw [hc] at HI
          have HI := hide HI
          have HP := fun W => rput_any (refNum s.data.toList k) W
          by_cases hp : putL (refNum s.data.toList k) = s.data.toList.take k
          · have hok : refOk s.data.toList k = true := by
              simp only [refOk, Bool.and_eq_true, decide_eq_true_eq]
              exact ⟨⟨⟨hk1, hk4, by omega⟩, hc⟩, hp⟩
            have he : (⟨(putL (refNum s.data.toList k)).toArray⟩ : ByteArray) = s.extract 0 k := bytes_ext (by rw [extract_zero, hp])
            rw [he] at HP
            have HP := hide HP
            have hres := HR.out
            rw [refOk_nextR hok] at hres
            simp only [Prod.mk.injEq] at hres
            obtain ⟨hr1, rfl, rfl⟩ := hres
            clear hc hp hok he HS hno HR
            generalize refNum s.data.toList k = c at *
            subst hr1
            go_wp2_with fail
            refine HN.out.mono ?_
            rintro e w1 ⟨rfl, f1⟩
            go_wp2_with fail
            go_region_held3 (fun _ => True) (first | trivial)
              (first
                | (go_at_call 87; refine (HI.out _).mono ?_; rintro e w2 ⟨rfl, rfl⟩)
                | (go_at_call 88; refine (HP.out _).mono ?_; rintro e w2 ⟨rfl, f2⟩))
            go_wp2_with fail
            go_returns
            exact ⟨rfl, (hfr.out.trans f1).then_ (Fr.trans (Fr.drew (Fr.refl _ _)) f2) (fun _ _ h => h)⟩
          · have hok := hide (show refOk s.data.toList k = false by
              cases hq : refOk s.data.toList k with
              | false => rfl
              | true =>
                simp only [refOk, Bool.and_eq_true, decide_eq_true_eq] at hq
                exact absurd hq.2 hp)
            have hne := str_ne (P := ⟨(putL (refNum s.data.toList k)).toArray⟩) (Q := s.extract 0 k) (fun hq => hp (by rw [← extract_zero, ← hq]))
            generalize (⟨(putL (refNum s.data.toList k)).toArray⟩ : ByteArray) = P at *
            have HP := hide HP
            clear hc hp
            generalize refNum s.data.toList k = c at *
            go_wp2_with fail
            refine HN.out.mono ?_
            rintro e w1 ⟨rfl, f1⟩
            go_wp2_with fail
            go_region_held3 (fun _ => True) (first | trivial)
              (first
                | (go_at_call 87; refine (HI.out _).mono ?_; rintro e w2 ⟨rfl, rfl⟩)
                | (go_at_call 88; refine (HP.out _).mono ?_; rintro e w2 ⟨rfl, f2⟩))
            go_wp2_with fail
            go_roundw
            case rel => exact ⟨k + 1, by omega, by omega, by go_num, (hfr.out.trans f1).then_ (Fr.trans (Fr.drew (Fr.refl _ _)) f2) (fun _ _ h => h), fun m hm => by
              by_cases hmk : m = k
              · rw [hmk]; exact hok.out
              · exact HS.out m hm hmk⟩
            case measure => simp [Go.RowKit.intOf]; omega
      · have hn : nextL s.data.toList = none := by
          cases hq : nextL s.data.toList with
          | none => rfl
          | some r =>
            obtain ⟨x, m⟩ := r
            obtain ⟨-, -, -, g1, g2, g3⟩ := nextL_some hq
            have := hno.out m (by omega)
            rw [(refOk_len hq).1] at this
            cases this
        have hres := HR.out
        rw [nextR_none hn (fun h0 => by rw [h0] at hl; simp at hl; omega)] at hres
        simp only [Prod.mk.injEq] at hres
        obtain ⟨rfl, rfl, rfl⟩ := hres
        clear hn
        have hor : 4 < k ∨ (k ≤ 4 ∧ s.size < k) := by omega
        clear hk
        rcases hor with g1 | ⟨g1, g2⟩
        all_goals
          go_wp2_with fail
          go_returns
          exact ⟨rfl, hfr.out⟩
  · have h0 : s.data.toList = [] := List.eq_nil_of_length_eq_zero (by omega)
    have hE : s.toList.isEmpty = true := by rw [toList_data, h0]; rfl
    have hE2 : s.toList = [] := by rw [toList_data, h0]
    have hres := HR.out
    rw [h0] at hres
    simp only [nextR, nextL_nil, if_true, Prod.mk.injEq] at hres
    obtain ⟨rfl, rfl, rfl⟩ := hres
    clear h0
    go_enter Tryz.func45, Tryz.ntmps45
    go_wp2_with fail
    go_returns
    exact ⟨rfl, Fr.refl _ _⟩

set_option maxRecDepth 100000 in
set_option maxHeartbeats 2000000 in
theorem rvalid_big (s : ByteArray) (w : World) (hs : s.size ≤ 9223372036854775807) : Calls Tryz.prog 19 #[.string s] w fun e w' =>
    e = .returned (.tuple #[.int .i64 (validR s.data.toList).1, .int .i64 (validR s.data.toList).2]) ∧ Fr (fun _ => False) w w' := by
  have hl : s.data.toList.length = s.size := rfl
  obtain ⟨r1, r2, hr⟩ : ∃ a b, validR s.data.toList = (a, b) := ⟨_, _, rfl⟩
  rw [hr]
  unfold validR at hr
  rw [hl] at hr
  have HR := hide hr
  clear hr
  go_enter Tryz.func19, Tryz.ntmps19
  go_wp2_with fail
  go_loopw [4] (fun i wr => ∃ p f : Nat, p ≤ s.size ∧ i = .int .i64 p ∧ Hid (Fr (fun _ => False) w wr) ∧ Hid (p + goodL f (s.data.toList.drop p) = goodL s.size s.data.toList ∧ s.size ≤ p + f)) (fun i _ => s.size - (Go.RowKit.intOf i).toNat)
  case atStart => exact ⟨0, s.size, by omega, rfl, Fr.refl _ _, by simp, by omega⟩
  case round =>
    obtain ⟨p, f, hps, rfl, hfr, hg⟩ := hrel
    by_cases hp : p < s.size
    · obtain ⟨f, rfl⟩ : ∃ f', f = f' + 1 := ⟨f - 1, by have := hg.out.2; omega⟩
      have hext : (s.extract p s.size).data.toList = s.data.toList.drop p := extract_to_end s p
      have hsz : (s.extract p s.size).size ≤ 9223372036854775807 := by
        have : (s.extract p s.size).data.toList.length = (s.extract p s.size).size := rfl
        rw [hext, List.length_drop] at this
        omega
      have HN := rnext_big (s.extract p s.size) wr hsz
      rw [hext] at HN
      cases hn : nextL (s.data.toList.drop p) with
      | some r =>
        obtain ⟨x, k⟩ := r
        obtain ⟨-, -, -, g1, g2, g3⟩ := nextL_some hn
        rw [List.length_drop] at g1
        simp only [nextR, hn] at HN
        have HN := hide HN
        have hgo := hg.out.1
        simp only [goodL, hn, List.drop_drop] at hgo
        have HG := hide hgo
        have hpk : p + k ≤ s.size := by omega
        clear hn hgo hext hsz g1
        go_wp2_with (go_at_call 45; refine HN.out.mono ?_; rintro e w1 ⟨rfl, f1⟩)
        go_roundw
        case rel => exact ⟨p + k, f, by omega, by go_num, hfr.out.trans f1, by have := HG.out; omega, by have := hg.out.2; omega⟩
        case measure => simp [Go.RowKit.intOf]; omega
      | none =>
        rw [nextR_none hn (fun h0 => by have := congrArg List.length h0; rw [List.length_drop] at this; simp at this; omega)] at HN
        have HN := hide HN
        have hgo := hg.out.1
        simp only [goodL, hn, Nat.add_zero] at hgo
        have hres := HR.out
        rw [← hgo, if_pos hp] at hres
        simp only [Prod.mk.injEq] at hres
        obtain ⟨rfl, rfl⟩ := hres
        clear hn hgo hext hsz
        go_wp2_with (go_at_call 45; refine HN.out.mono ?_; rintro e w1 ⟨rfl, f1⟩)
        go_returns
        exact ⟨rfl, hfr.out.trans f1⟩
    · obtain rfl : p = s.size := by omega
      have hgo := hg.out.1
      have hres := HR.out
      rw [← hgo, if_neg (by omega)] at hres
      simp only [Prod.mk.injEq] at hres
      obtain ⟨rfl, rfl⟩ := hres
      clear hgo
      go_wp2_with fail
      go_returns
      exact ⟨rfl, hfr.out⟩
end Go.Proofs.YtalbehjjgdedcaaGreatDoor

namespace Go.Proofs.YtalbehjjgdedcaaGreatDoor
open Go.RowKit Go.Lib

theorem run_slice_to {P : Program} (W : World) (t e : TypeId) {k : Nat} (ht : P.underlying t = some (.slice e)) (hsz : (Go.sizeOf e).run P W = .ok k W) (A : Option Addr) (n c hi : Nat) (h2 : hi ≤ c) :
    (Instr.slice t (.slice A n c) none (some (.int .i64 (hi : Int))) none).run P W = .ok (.slice (if c = 0 then A else A.map (·.add (0 * k))) hi c) W := by
  have h3 : (hi : Int) ≤ c := by omega
  simp [Instr.slice, Instr.sliceBounds, Instr.sliceBound, run_underlying ht, hsz, asIntOf, h3]
  intro h; omega
theorem run_slice_from {P : Program} (W : World) (t e : TypeId) {k : Nat} (ht : P.underlying t = some (.slice e)) (hsz : (Go.sizeOf e).run P W = .ok k W) (A : Option Addr) (n c lo : Nat) (h2 : lo ≤ n) :
    (Instr.slice t (.slice A n c) (some (.int .i64 (lo : Int))) none none).run P W = .ok (.slice (if c = lo then A else A.map (·.add (lo * k))) (n - lo) (c - lo)) W := by
  have h3 : (lo : Int) ≤ n := by omega
  simp [Instr.slice, Instr.sliceBounds, Instr.sliceBound, run_underlying ht, hsz, asIntOf, h3]
  intro h; omega
section
variable {α : Type} {C : Cod α} {w : World} {S : Nat → Prop} {A : Option Addr} {n c : Nat} {l : List α}
theorem Rd.take (h : Rd C w S (.slice A n c) l) {k : Nat} (hk : k ≤ l.length) : Rd C w S (.slice (if c = 0 then A else A.map (·.add (0 * C.size))) k c) (l.take k) := by
  obtain ⟨A', c', h1, h2, h3, h4, h5⟩ := h
  simp only [Value.slice.injEq] at h1
  obtain ⟨rfl, rfl, rfl⟩ := h1
  have hl : (l.take k).length = k := by rw [List.length_take]; omega
  refine ⟨_, c, by rw [hl], by omega, h3, fun h => ?_, fun hp => ?_⟩
  · split at h
    · assumption
    · exact h4 (by simpa using h)
  · obtain ⟨g, off, rfl, hg, hc⟩ := h5 (by omega)
    refine ⟨g, off, ?_, hg, fun j u hu => ?_⟩
    · rw [if_neg (by omega), Option.map_some, Addr.add_lit]
      simp
    · rw [← C.flat_take, List.getElem?_take] at hu
      split at hu
      · exact hc j u hu
      · cases hu
theorem Rd.drop (h : Rd C w S (.slice A n c) l) {k : Nat} (hk : k ≤ l.length) : Rd C w S (.slice (if c = k then A else A.map (·.add (k * C.size))) (n - k) (c - k)) (l.drop k) := by
  obtain ⟨A', c', h1, h2, h3, h4, h5⟩ := h
  simp only [Value.slice.injEq] at h1
  obtain ⟨rfl, rfl, rfl⟩ := h1
  have hl : (l.drop k).length = l.length - k := by rw [List.length_drop]
  refine ⟨_, c - k, by rw [hl], by omega, by omega, fun h => ?_, fun hp => ?_⟩
  · split at h
    · omega
    · have := h4 (by simpa using h)
      omega
  · obtain ⟨g, off, rfl, hg, hc⟩ := h5 (by omega)
    refine ⟨g, off + k * C.size, ?_, hg, fun j u hu => ?_⟩
    · rw [if_neg (by omega), Option.map_some, Addr.add_lit]
    · rw [← C.flat_drop, List.getElem?_drop] at hu
      rw [Nat.add_assoc]
      exact hc _ u hu
end

theorem joins_plain {a b : List UInt8} (ha : a.length ≤ 400) (hb : b.length ≤ 400) (hc : (validR a).2 = 0) (hd : (validR b).2 = 0) (hh : b.head? = some 60) (he : (tokR a).2.2 = 0) :
    ((tokR b).2.2 ≠ 0 → tokR (a ++ b) = ([], a.length + (tokR b).2.1, (tokR b).2.2)) ∧ ((tokR b).2.2 = 0 → tokR (a ++ b) = ((tokR a).1 ++ (tokR b).1.map (shT a.length), 0, 0)) := by
  have hv : (validR (a ++ b)).2 = 0 := (validR_iff _).2 (((validR_iff _).1 hc).append ((validR_iff _).1 hd))
  have e1 : tokR a = tokS a 0 [] := by unfold tokR; rw [if_neg (by omega), if_neg (by simpa using hc)]
  have e2 : tokR b = tokS b 0 [] := by unfold tokR; rw [if_neg (by omega), if_neg (by simpa using hd)]
  have e3 : tokR (a ++ b) = tokS (a ++ b) 0 [] := by unfold tokR; rw [if_neg (by rw [List.length_append]; omega), if_neg (by simpa using hv)]
  rw [e1] at he
  have h1 := tokS_join (.inr hh) a 0 [] he
  have h2 := tokS_shift a.length (tokS a 0 []).1 b 0 []
  rw [List.map_nil, List.append_nil] at h2
  rw [e3, h1, h2, e1, e2]
  constructor
  · intro h
    rw [if_neg h]
    have h3 := (tokS_err b 0 [] h).1
    rw [h3, Nat.add_comm]
  · intro h
    rw [if_pos h, tokS_ok0 b 0 [] h]
theorem tokR_at {l : List UInt8} (h : l.length ≤ 65536) : (tokR l).2.1 ≤ l.length := by
  by_cases he : (tokR l).2.2 = 0
  · unfold tokR at he ⊢
    rw [if_neg (by omega)] at he ⊢
    by_cases hv : (validR l).2 ≠ 0
    · rw [if_pos hv] at he; exact absurd he hv
    · rw [if_neg hv] at he ⊢
      rw [tokS_ok0 l 0 [] he]; omega
  · unfold tokR at he ⊢
    rw [if_neg (by omega)] at he ⊢
    by_cases hv : (validR l).2 ≠ 0
    · rw [if_pos hv]
      show (validR l).1 ≤ l.length
      unfold validR
      split
      · rename_i h; exact Nat.le_of_lt h
      · exact Nat.zero_le _
    · rw [if_neg hv] at he ⊢
      have := (tokS_err l 0 [] he).2
      omega
theorem tokR_ok0 {l : List UInt8} (he : (tokR l).2.2 = 0) : (tokR l).2.1 = 0 := by
  unfold tokR at he ⊢
  split at he
  · cases he
  · rename_i h
    rw [if_neg h]
    split at he
    · rename_i hv; exact absurd he hv
    · rename_i hv
      rw [if_neg hv]
      exact tokS_ok0 l 0 [] he
end Go.Proofs.YtalbehjjgdedcaaGreatDoor

namespace Go.Proofs.YtalbehjjgdedcaaGreatDoor
open Go.RowKit Go.Lib
attribute [local go_sem ↓] Go.wp_at_zero Go.wp_at_succ

theorem sz_tok (W : World) : (Go.sizeOf 33).run Tryz.prog W = .ok 5 W := by
  obtain ⟨-, i, z, h1, -, h3, -⟩ := el_tok
  simp [Go.sizeOf, typeInfo, h1, h3]
theorem shT_zero (l : List Tok) : l.map (shT 0) = l := by
  have : shT 0 = id := rfl
  rw [this, List.map_id]

/-- what is known of a text's tokens -/
theorem tokR_bound {l : List UInt8} (hl : l.length ≤ 800) (he : (tokR l).2.2 = 0) : ∀ t ∈ (tokR l).1, t.at_ ≤ l.length ∧ t.attrs.length ≤ 32 := by
  have h : ordT l 0 (tokR l).1 := by
    unfold tokR at he ⊢
    rw [if_neg (by omega)] at he ⊢
    by_cases hv : (validR l).2 ≠ 0
    · rw [if_pos hv] at he; exact absurd he hv
    · rw [if_neg hv] at he ⊢
      obtain ⟨more, h1, h2⟩ := tokS_order l l 0 [] rfl he
      rw [List.nil_append] at h1
      rw [h1]
      exact h2
  have key : ∀ (T : List Tok) (lo : Nat), ordT l lo T → ∀ t ∈ T, t.at_ ≤ l.length ∧ t.attrs.length ≤ 32 := by
    intro T
    induction T with
    | nil => intro lo _ t ht; cases ht
    | cons a T ih =>
      intro lo h t ht
      rw [ordT] at h
      rcases List.mem_cons.1 ht with rfl | ht
      · exact ⟨by omega, h.2.2.2.2.2.1⟩
      · exact ih _ h.2.2.2.2.2.2.2 t ht
  exact key _ _ h

/-- what Tokens answers, spelled for a walk -/
theorem tokens_at (s : ByteArray) (w : World) (hst : St w) {TS : List Tok} {p : Nat} {er : Int} (h : tokR s.data.toList = (TS, p, er)) {n : Nat} (hn : TS.length = n) :
    Calls Tryz.prog 13 #[.string s] w fun e w' => ∃ A c o X, e = .returned (.tuple #[.slice A n c, .int .i64 p, .int .i64 er]) ∧ TokL w' w.heap.size (.slice A n c) o X ∧ X.map (·.m) = TS ∧ Fr (fun _ => False) w w' :=
  (tokens_any s w hst).mono fun e w' ⟨A, c, o, X, h1, h2, h3, h4⟩ => by
    rw [h] at h1 h3
    have h3' : X.map (·.m) = TS := h3
    have hl : X.length = n := by rw [← hn, ← h3', List.length_map]
    rw [hl] at h1 h2
    exact ⟨A, c, o, X, h1, h2, h3, h4⟩

set_option maxRecDepth 100000 in
set_option maxHeartbeats 8000000 in
/-- the walk where both are characters, and short -/
theorem joins_main (a b : ByteArray) (w : World) (HST : Hid (∀ W, Fr (fun _ => False) w W → St W)) (ha : a.size ≤ 400) (hb : b.size ≤ 400) (h0 : 0 < b.size) (h60 : (((b[0]'h0).toNat : Int) != 60) = false)
    (hc : (validR a.data.toList).2 = 0) (hd : (validR b.data.toList).2 = 0) :
    Calls Tryz.prog 5 #[.string a, .string b] w fun e w' => e = .returned (.bool true) ∧ Fr (fun _ => False) w w' := by
  have hal : a.data.toList.length = a.size := rfl
  have hbl : b.data.toList.length = b.size := rfl
  have hv1 := fun W => rvalid_big a W (by omega)
  have hv2 := fun W => rvalid_big b W (by omega)
  rw [hc] at hv1
  rw [hd] at hv2
  have HV1 := hide hv1
  have HV2 := hide hv2
  have HWK := hide (fun (W : World) (f : Fr (fun _ => False) w W) => works_any W (HST.out W f))
  obtain ⟨iE, iE2⟩ := ne_nil_ h0
  have hh : b.data.toList.head? = some 60 := by
    have h1 := data_getElem_ b 0 h0
    have h2 : (b[0]'h0) = 60 := by
      have : ((b[0]'h0).toNat : Int) = 60 := by simpa using h60
      exact UInt8.toNat_inj.1 (by show _ = 60; omega)
    rw [h2] at h1
    cases hx : b.data.toList with
    | nil => rw [hx] at h1; cases h1
    | cons c t => rw [hx] at h1; exact h1
  have ia : ¬ (400 : Int) < a.size := by omega
  have ib : ¬ (400 : Int) < b.size := by omega
  have ia2 : (a.size : Int) ≤ 400 := by omega
  have ib2 : (b.size : Int) ≤ 400 := by omega
  have ib3 : (0 : Int) < b.size := by omega
  generalize (validR a.data.toList).1 = va at *
  generalize (validR b.data.toList).1 = vb at *
  by_cases he : (tokR a.data.toList).2.2 = 0
  · have hpl := joins_plain (by omega) (by omega) hc hd hh he
    obtain ⟨TA, hTA⟩ : ∃ TA, (tokR a.data.toList).1 = TA := ⟨_, rfl⟩
    have hpa := tokR_ok0 he
    have hRA : tokR a.data.toList = (TA, 0, 0) := by rw [← hTA, ← hpa, ← he]
    obtain ⟨na, hna⟩ : ∃ na, TA.length = na := ⟨_, rfl⟩
    have HTA := hide (fun (W : World) (f : Fr (fun _ => False) w W) => tokens_at a W (HST.out W f) hRA hna)
    have hab : (a ++ b).data.toList = a.data.toList ++ b.data.toList := by simp
    by_cases hf : (tokR b.data.toList).2.2 = 0
    · have hz := hpl.2 hf
      obtain ⟨TB, hTB⟩ : ∃ TB, (tokR b.data.toList).1 = TB := ⟨_, rfl⟩
      have hpb := tokR_ok0 hf
      have hRB : tokR b.data.toList = (TB, 0, 0) := by rw [← hTB, ← hpb, ← hf]
      obtain ⟨nb, hnb⟩ : ∃ nb, TB.length = nb := ⟨_, rfl⟩
      rw [hTA, hTB, hal, ← hab] at hz
      have hnz : (TA ++ TB.map (shT a.size)).length = na + nb := by rw [List.length_append, List.length_map, hna, hnb]
      have HTB := hide (fun (W : World) (f : Fr (fun _ => False) w W) => tokens_at b W (HST.out W f) hRB hnb)
      have HTZ := hide (fun (W : World) (f : Fr (fun _ => False) w W) => tokens_at (a ++ b) W (HST.out W f) hz hnz)
      have hbA : ∀ t ∈ TA, t.at_ ≤ 800 ∧ t.attrs.length ≤ 32 := fun t ht => by have := tokR_bound (by omega) he t (by rw [hTA]; exact ht); omega
      have hbB : ∀ t ∈ TB, t.at_ ≤ 800 ∧ t.attrs.length ≤ 32 := fun t ht => by have := tokR_bound (by omega) hf t (by rw [hTB]; exact ht); omega
      have HBA := hide hbA
      have HBB := hide hbB
      have HN := hide (And.intro hna hnb)
      clear hpl hTA hTB hpa hpb hRA hRB hna hnb hnz hz hab hh hv1 hv2 hc hd he hf hal hbl hbA hbB
      go_enter Tryz.func5, Tryz.ntmps5
      go_wp2_with (first
        | (go_at_call 19; with_reducible refine (HV1.out _).mono ?_; rintro e w1 ⟨rfl, f1⟩)
        | (go_at_call 19; with_reducible refine (HV2.out _).mono ?_; rintro e w2 ⟨rfl, f2⟩)
        | (go_at_call 13; with_reducible refine (HTA.out _ (f1.trans f2)).mono ?_; rintro e w3 ⟨A1, c1, o1, X1, rfl, tl1, hX1, f3⟩; have TL1 := hide tl1; have HX1 := hide hX1; clear tl1 hX1)
        | (go_at_call 13; with_reducible refine (HTB.out _ ((f1.trans f2).trans f3)).mono ?_; rintro e w4 ⟨A2, c2, o2, X2, rfl, tl2, hX2, f4⟩; have TL2 := hide tl2; have HX2 := hide hX2; clear tl2 hX2)
        | (go_at_call 13; with_reducible refine (HTZ.out _ (((f1.trans f2).trans f3).trans f4)).mono ?_; rintro e w5 ⟨A3, c3, o3, X3, rfl, tl3, hX3, f5⟩; have TL3 := hide tl3; have HX3 := hide hX3; clear tl3 hX3;
           have FW := hide ((((f1.trans f2).trans f3).trans f4).trans f5);
           have hn63 : (na : Int) + nb ≤ 9223372036854775807 := by
             obtain ⟨A', c', hv, h5, h6⟩ := TL3.out.own.form
             simp only [Value.slice.injEq] at hv
             unfold maxLen at h6
             omega;
           have hnc : (na : Int) ≤ c3 := by
             obtain ⟨A', c', hv, h5, h6⟩ := TL3.out.own.form
             simp only [Value.slice.injEq] at hv
             omega;
           obtain ⟨A4, hA4⟩ : ∃ A4, (if c3 = 0 then A3 else A3.map (·.add (0 * 5))) = A4 := ⟨_, rfl⟩;
           obtain ⟨A5, hA5⟩ : ∃ A5, (if c3 = na then A3 else A3.map (·.add (na * 5))) = A5 := ⟨_, rfl⟩;
           obtain ⟨c4, hc4⟩ : ∃ c4, c3 - na = c4 := ⟨_, rfl⟩;
           have hsl1 : ∀ W : World, (Instr.slice 27 (.slice A3 (na + nb) c3) none (some (.int .i64 (na : Int))) none).run Tryz.prog W = .ok (.slice A4 na c3) W := fun W => (run_slice_to W _ _ Tryz.underlying27 (sz_tok W) A3 (na + nb) c3 na (by omega)).trans (by rw [hA4]);
           have hsl2 : ∀ W : World, (Instr.slice 27 (.slice A3 (na + nb) c3) (some (.int .i64 (na : Int))) none none).run Tryz.prog W = .ok (.slice A5 nb c4) W := fun W => (run_slice_from W _ _ Tryz.underlying27 (sz_tok W) A3 (na + nb) c3 na (by omega)).trans (by rw [Nat.add_sub_cancel_left, hA5, hc4]);
           have HA4 := hide (And.intro hA4 (And.intro hA5 hc4));
           clear hA4 hA5 hc4;
           have hz0 : ((na + nb : Nat) : Int) = (na : Int) + nb := by omega;
           have HS1 := hide (show Calls Tryz.prog 18 #[.slice A4 na c3, .slice A1 na c1, .int .i64 0] w5 fun e w' => e = .returned (.bool true) ∧ Fr (fun _ => False) w5 w' from by
             obtain ⟨hA4, hA5, hc4⟩ := HA4.out
             obtain ⟨hna, hnb⟩ := HN.out
             have hXl : X3.length = na + nb := by
               have h1 := congrArg List.length HX3.out
               rw [List.length_map, List.length_append, List.length_map, hna, hnb] at h1
               exact h1
             have hr := TL3.out.own.rd.take (k := na) (by rw [List.length_map]; omega)
             rw [← List.map_take, show (if c3 = 0 then A3 else A3.map (·.add (0 * tokC.size))) = A4 from hA4] at hr
             have tl1 := (TL1.out.fr f4 (fun _ _ _ _ h => h)).fr f5 (fun _ _ _ _ h => h)
             exact same_true w5 _ _ na c3 c1 (X3.take na) X1 _ _ hr tl1.own.rd (fun k hk => TL3.out.own.lt k hk) (fun k hk => tl1.own.lt k hk) (fun x hx => TL3.out.ok x (List.mem_of_mem_take hx)) (fun x hx => tl1.ok x hx) 0
               (by rw [shT_zero, HX1.out, List.map_take, HX3.out, ← hna, List.take_left]) (fun y hy => by
                 have := HBA.out y.m (by rw [← HX1.out]; exact List.mem_map_of_mem hy)
                 omega));
           have HS2 := hide (fun (W : World) (f : Fr (fun _ => False) w5 W) => show Calls Tryz.prog 18 #[.slice A5 nb c4, .slice A2 nb c2, .int .i64 (a.size : Int)] W fun e w' => e = .returned (.bool true) ∧ Fr (fun _ => False) W w' from by
             obtain ⟨hA4, hA5, hc4⟩ := HA4.out
             obtain ⟨hna, hnb⟩ := HN.out
             have hXl : X3.length = na + nb := by
               have h1 := congrArg List.length HX3.out
               rw [List.length_map, List.length_append, List.length_map, hna, hnb] at h1
               exact h1
             have tl3 := TL3.out.fr f (fun _ _ _ _ h => h)
             have hr := tl3.own.rd.drop (k := na) (by rw [List.length_map]; omega)
             rw [← List.map_drop, Nat.add_sub_cancel_left, show (if c3 = na then A3 else A3.map (·.add (na * tokC.size))) = A5 from hA5, hc4] at hr
             have tl2 := (TL2.out.fr f5 (fun _ _ _ _ h => h)).fr f (fun _ _ _ _ h => h)
             exact same_true W _ _ nb c4 c2 (X3.drop na) X2 _ _ hr tl2.own.rd (fun k hk => tl3.own.lt k hk) (fun k hk => tl2.own.lt k hk) (fun x hx => tl3.ok x (List.mem_of_mem_drop hx)) (fun x hx => tl2.ok x hx) a.size
               (by rw [HX2.out, List.map_drop, HX3.out, ← hna, List.drop_left]) (fun y hy => by
                 have := HBB.out y.m (by rw [← HX2.out]; exact List.mem_map_of_mem hy)
                 omega)))
        | (go_at_call 18; with_reducible refine (HS1.out).mono ?_; rintro e w6 ⟨rfl, f6⟩)
        | (go_at_call 18; with_reducible refine (HS2.out _ f6).mono ?_; rintro e w7 ⟨rfl, f7⟩)
        | (go_at_call 11; refine (HWK.out _ ((FW.out.trans f6).trans f7)).mono ?_; rintro e w8 ⟨rfl, f8⟩))
      go_returns
      exact ⟨by simp, ((FW.out.trans f6).trans f7).trans f8⟩
    · have hz := hpl.1 hf
      have hpat := tokR_at (l := b.data.toList) (by omega)
      obtain ⟨TB, hTB⟩ : ∃ TB, (tokR b.data.toList).1 = TB := ⟨_, rfl⟩
      obtain ⟨pb, hpb⟩ : ∃ pb, (tokR b.data.toList).2.1 = pb := ⟨_, rfl⟩
      obtain ⟨fb, hfb⟩ : ∃ fb, (tokR b.data.toList).2.2 = fb := ⟨_, rfl⟩
      have hRB : tokR b.data.toList = (TB, pb, fb) := by rw [← hTB, ← hpb, ← hfb]
      obtain ⟨nb, hnb⟩ : ∃ nb, TB.length = nb := ⟨_, rfl⟩
      rw [hpb, hfb, hal, ← hab] at hz
      rw [hpb] at hpat
      rw [hfb] at hf
      have HTB := hide (fun (W : World) (f : Fr (fun _ => False) w W) => tokens_at b W (HST.out W f) hRB hnb)
      have HTZ := hide (fun (W : World) (f : Fr (fun _ => False) w W) => tokens_at (a ++ b) W (HST.out W f) hz (n := 0) rfl)
      have hfn : (fb != 0) = true := by simpa using hf
      have hkk : ((a.size + pb : Nat) : Int) = (a.size : Int) + pb := by omega
      have hpb400 : (pb : Int) ≤ 400 := by omega
      clear hpl hTA hTB hpa hpb hfb hRA hRB hna hnb hz hab hh hv1 hv2 hc hd he hf hal hbl hpat
      go_enter Tryz.func5, Tryz.ntmps5
      go_wp2_with (first
        | (go_at_call 19; with_reducible refine (HV1.out _).mono ?_; rintro e w1 ⟨rfl, f1⟩)
        | (go_at_call 19; with_reducible refine (HV2.out _).mono ?_; rintro e w2 ⟨rfl, f2⟩)
        | (go_at_call 13; with_reducible refine (HTA.out _ (f1.trans f2)).mono ?_; rintro e w3 ⟨A1, c1, o1, X1, rfl, tl1, hX1, f3⟩; clear tl1 hX1)
        | (go_at_call 13; with_reducible refine (HTB.out _ ((f1.trans f2).trans f3)).mono ?_; rintro e w4 ⟨A2, c2, o2, X2, rfl, tl2, hX2, f4⟩; clear tl2 hX2)
        | (go_at_call 13; with_reducible refine (HTZ.out _ (((f1.trans f2).trans f3).trans f4)).mono ?_; rintro e w5 ⟨A3, c3, o3, X3, rfl, tl3, hX3, f5⟩; clear tl3 hX3; have FW := hide ((((f1.trans f2).trans f3).trans f4).trans f5))
        | (go_at_call 11; refine (HWK.out _ FW.out).mono ?_; rintro e w8 ⟨rfl, f8⟩))
      go_returns
      exact ⟨by simp, FW.out.trans f8⟩
  · obtain ⟨TA, hTA⟩ : ∃ TA, (tokR a.data.toList).1 = TA := ⟨_, rfl⟩
    obtain ⟨pa, hpa⟩ : ∃ pa, (tokR a.data.toList).2.1 = pa := ⟨_, rfl⟩
    obtain ⟨ea, hea⟩ : ∃ ea, (tokR a.data.toList).2.2 = ea := ⟨_, rfl⟩
    have hRA : tokR a.data.toList = (TA, pa, ea) := by rw [← hTA, ← hpa, ← hea]
    obtain ⟨na, hna⟩ : ∃ na, TA.length = na := ⟨_, rfl⟩
    rw [hea] at he
    have HTA := hide (fun (W : World) (f : Fr (fun _ => False) w W) => tokens_at a W (HST.out W f) hRA hna)
    have hen : (ea != 0) = true := by simpa using he
    clear hTA hpa hea hRA hna hh hv1 hv2 hc hd he hal hbl
    go_enter Tryz.func5, Tryz.ntmps5
    go_wp2_with (first
      | (go_at_call 19; with_reducible refine (HV1.out _).mono ?_; rintro e w1 ⟨rfl, f1⟩)
      | (go_at_call 19; with_reducible refine (HV2.out _).mono ?_; rintro e w2 ⟨rfl, f2⟩)
      | (go_at_call 13; with_reducible refine (HTA.out _ (f1.trans f2)).mono ?_; rintro e w3 ⟨A1, c1, o1, X1, rfl, tl1, hX1, f3⟩; clear tl1 hX1)
      | (go_at_call 11; refine (HWK.out _ ((f1.trans f2).trans f3)).mono ?_; rintro e w8 ⟨rfl, f8⟩))
    go_returns
    exact ⟨rfl, ((f1.trans f2).trans f3).trans f8⟩

/-- what the guard sees of the texts where they are not asked -/
def Unasked (a b : ByteArray) : Prop :=
  (400 : Int) < a.size ∨ ((a.size : Int) ≤ 400 ∧ ((400 : Int) < b.size ∨ ((b.size : Int) ≤ 400 ∧ (b = ⟨#[]⟩ ∨ ∃ h0 : 0 < b.size, (((b[0]'h0).toNat : Int) != 60) = true ∨ ((((b[0]'h0).toNat : Int) != 60) = false ∧ ((validR a.data.toList).2 ≠ 0 ∨ ((validR a.data.toList).2 = 0 ∧ (validR b.data.toList).2 ≠ 0)))))))

set_option maxRecDepth 100000 in
set_option maxHeartbeats 8000000 in
theorem joins_unasked (a b : ByteArray) (w : World) (HST : Hid (∀ W, Fr (fun _ => False) w W → St W)) (ha : a.size ≤ 9223372036854775807) (hb : b.size ≤ 9223372036854775807) (h : Unasked a b) :
    Calls Tryz.prog 5 #[.string a, .string b] w fun e w' => e = .returned (.bool true) ∧ Fr (fun _ => False) w w' := by
  have hv1 := fun W => rvalid_big a W ha
  have hv2 := fun W => rvalid_big b W hb
  have HWK := hide (fun (W : World) (f : Fr (fun _ => False) w W) => works_any W (HST.out W f))
  generalize hx1 : (validR a.data.toList).1 = va at *
  generalize hx2 : (validR b.data.toList).1 = vb at *
  unfold Unasked at h
  generalize hx3 : (validR a.data.toList).2 = xa at *
  generalize hx4 : (validR b.data.toList).2 = xb at *
  clear hx1 hx2 hx3 hx4 HST
  have HV1 := hide hv1
  have HV2 := hide hv2
  clear hv1 hv2
  rcases h with i1 | ⟨i1, i2 | ⟨i2, rfl | ⟨h0, i3 | ⟨i3, i4 | ⟨i4, i5⟩⟩⟩⟩⟩
  · clear ha hb
    go_enter Tryz.func5, Tryz.ntmps5
    go_wp2_with (first
      | (go_at_call 19; with_reducible refine (HV1.out _).mono ?_; rintro e w1 ⟨rfl, f1⟩)
      | (go_at_call 19; with_reducible refine (HV2.out _).mono ?_; rintro e w2 ⟨rfl, f2⟩)
      | (go_at_call 11; refine (HWK.out _ (f1.trans f2)).mono ?_; rintro e w8 ⟨rfl, f8⟩))
    go_returns
    exact ⟨rfl, (f1.trans f2).trans f8⟩
  · have n1 : ¬ (400 : Int) < a.size := by omega
    clear ha hb
    go_enter Tryz.func5, Tryz.ntmps5
    go_wp2_with (first
      | (go_at_call 19; with_reducible refine (HV1.out _).mono ?_; rintro e w1 ⟨rfl, f1⟩)
      | (go_at_call 19; with_reducible refine (HV2.out _).mono ?_; rintro e w2 ⟨rfl, f2⟩)
      | (go_at_call 11; refine (HWK.out _ (f1.trans f2)).mono ?_; rintro e w8 ⟨rfl, f8⟩))
    go_returns
    exact ⟨rfl, (f1.trans f2).trans f8⟩
  · have n1 : ¬ (400 : Int) < a.size := by omega
    clear ha hb
    go_enter Tryz.func5, Tryz.ntmps5
    go_wp2_with (first
      | (go_at_call 19; with_reducible refine (HV1.out _).mono ?_; rintro e w1 ⟨rfl, f1⟩)
      | (go_at_call 19; with_reducible refine (HV2.out _).mono ?_; rintro e w2 ⟨rfl, f2⟩)
      | (go_at_call 11; refine (HWK.out _ (f1.trans f2)).mono ?_; rintro e w8 ⟨rfl, f8⟩))
    go_returns
    exact ⟨rfl, (f1.trans f2).trans f8⟩
  · have n1 : ¬ (400 : Int) < a.size := by omega
    have n2 : ¬ (400 : Int) < b.size := by omega
    obtain ⟨iE, iE2⟩ := ne_nil_ h0
    have i30 : (0 : Int) < b.size := by omega
    clear ha hb
    go_enter Tryz.func5, Tryz.ntmps5
    go_wp2_with (first
      | (go_at_call 19; with_reducible refine (HV1.out _).mono ?_; rintro e w1 ⟨rfl, f1⟩)
      | (go_at_call 19; with_reducible refine (HV2.out _).mono ?_; rintro e w2 ⟨rfl, f2⟩)
      | (go_at_call 11; refine (HWK.out _ (f1.trans f2)).mono ?_; rintro e w8 ⟨rfl, f8⟩))
    go_returns
    exact ⟨rfl, (f1.trans f2).trans f8⟩
  · have n1 : ¬ (400 : Int) < a.size := by omega
    have n2 : ¬ (400 : Int) < b.size := by omega
    obtain ⟨iE, iE2⟩ := ne_nil_ h0
    have i30 : (0 : Int) < b.size := by omega
    have i4b : (xa != 0) = true := by simpa using i4
    clear ha hb i4
    go_enter Tryz.func5, Tryz.ntmps5
    go_wp2_with (first
      | (go_at_call 19; with_reducible refine (HV1.out _).mono ?_; rintro e w1 ⟨rfl, f1⟩)
      | (go_at_call 19; with_reducible refine (HV2.out _).mono ?_; rintro e w2 ⟨rfl, f2⟩)
      | (go_at_call 11; refine (HWK.out _ (f1.trans f2)).mono ?_; rintro e w8 ⟨rfl, f8⟩))
    go_returns
    exact ⟨rfl, (f1.trans f2).trans f8⟩
  · have n1 : ¬ (400 : Int) < a.size := by omega
    have n2 : ¬ (400 : Int) < b.size := by omega
    obtain ⟨iE, iE2⟩ := ne_nil_ h0
    have i30 : (0 : Int) < b.size := by omega
    subst i4
    have i5b : (xb != 0) = true := by simpa using i5
    clear ha hb i5
    go_enter Tryz.func5, Tryz.ntmps5
    go_wp2_with (first
      | (go_at_call 19; with_reducible refine (HV1.out _).mono ?_; rintro e w1 ⟨rfl, f1⟩)
      | (go_at_call 19; with_reducible refine (HV2.out _).mono ?_; rintro e w2 ⟨rfl, f2⟩)
      | (go_at_call 11; refine (HWK.out _ (f1.trans f2)).mono ?_; rintro e w8 ⟨rfl, f8⟩))
    go_returns
    exact ⟨rfl, (f1.trans f2).trans f8⟩
theorem tokenJoins_any (a b : ByteArray) (w : World) (hst : St w) (ha : a.size ≤ 9223372036854775807) (hb : b.size ≤ 9223372036854775807) :
    Calls Tryz.prog 5 #[.string a, .string b] w fun e w' => e = .returned (.bool true) ∧ Fr (fun _ => False) w w' := by
  have HST := hide (fun (W : World) (f : Fr (fun _ => False) w W) => hst.same f)
  by_cases h : Unasked a b
  · exact joins_unasked a b w HST ha hb h
  · unfold Unasked at h
    have h1 : a.size ≤ 400 := Classical.byContradiction fun hn => h (.inl (by omega))
    have h2 : b.size ≤ 400 := Classical.byContradiction fun hn => h (.inr ⟨by omega, .inl (by omega)⟩)
    have h3 : 0 < b.size := Classical.byContradiction fun hn => h (.inr ⟨by omega, .inr ⟨by omega, .inl (by
      cases b with
      | mk d => congr 1; exact Array.toList_inj.1 (List.eq_nil_of_length_eq_zero (by show (⟨d⟩ : ByteArray).size = 0; omega)))⟩⟩)
    have h4 : (((b[0]'h3).toNat : Int) != 60) = false := by
      cases hx : (((b[0]'h3).toNat : Int) != 60) with
      | false => rfl
      | true => exact absurd (.inr ⟨by omega, .inr ⟨by omega, .inr ⟨h3, .inl hx⟩⟩⟩) h
    have h5 : (validR a.data.toList).2 = 0 := Classical.byContradiction fun hn => h (.inr ⟨by omega, .inr ⟨by omega, .inr ⟨h3, .inr ⟨h4, .inl hn⟩⟩⟩⟩)
    have h6 : (validR b.data.toList).2 = 0 := Classical.byContradiction fun hn => h (.inr ⟨by omega, .inr ⟨by omega, .inr ⟨h3, .inr ⟨h4, .inr ⟨h5, hn⟩⟩⟩⟩⟩)
    exact joins_main a b w HST h1 h2 h3 h4 h5 h6
end Go.Proofs.YtalbehjjgdedcaaGreatDoor
