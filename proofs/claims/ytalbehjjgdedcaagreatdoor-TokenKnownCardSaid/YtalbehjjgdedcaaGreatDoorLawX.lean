/- the reference's names, of any size; the law's written: a part, and the token that it is. -/
import Derived.Test.YtalbehjjgdedcaaGreatDoorNamD
import Derived.Test.YtalbehjjgdedcaaGreatDoorLawC
import Derived.Test.YtalbehjjgdedcaaGreatDoorTokS
namespace Go.Proofs.YtalbehjjgdedcaaGreatDoor
open Go.RowKit Go.Lib
attribute [local go_sem ↓] Go.wp_at_zero Go.wp_at_succ

set_option maxHeartbeats 2000000 in
theorem rplain_big (s : ByteArray) (w : World) (hs : s.size ≤ 9223372036854775807) : Calls Tryz.prog 85 #[.string s] w fun e w' => e = .returned (.bool (plainB s.data.toList)) ∧ w = w' := by
  have hsz : s.data.toList.length = s.size := rfl
  by_cases h0 : 0 < s.size
  · by_cases h64 : s.size ≤ 64
    · have hi64 : (s.size : Int) ≤ 64 := by omega
      have hi0 : (0 : Int) < s.size := by omega
      have e0 : ((s.size : Int) == 0) = false := by rw [beq_eq_false_iff_ne]; omega
      have e0' : s.size ≠ 0 := by omega
      have hcons : s.data.toList = (s[0]'h0) :: s.data.toList.drop 1 := by
        have := List.drop_eq_getElem_cons (l := s.data.toList) (i := 0) h0
        exact this
      have hl := letter_any (s[0]'h0) w
      cases hF : isF (s[0]'h0) with
      | false =>
        have hp : plainB s.data.toList = false := by
          unfold plainB plainN
          rw [show lenN s.data.toList = 0 by rw [hcons, lenN_cons, if_neg (by rw [hF]; decide)]]
          rfl
        rw [hp]
        rw [hF] at hl
        clear hcons hF hp hsz
        go_enter Tryz.func85, Tryz.ntmps85
        go_wp2_with (go_at_call 119; refine hl.mono ?_; rintro e w' ⟨rfl, rfl⟩)
        go_ret
        exact ⟨rfl, rfl⟩
      | true =>
        have hp : 0 < lenN s.data.toList := by rw [hcons, lenN_cons, if_pos hF]; omega
        rw [hF] at hl
        have HP := hide hp
        obtain ⟨R, hR⟩ : ∃ R, plainB s.data.toList = R := ⟨_, rfl⟩
        have hR2 : R = decide (lenN s.data.toList = s.size) := by
          rw [← hR]
          unfold plainB plainN
          rw [decide_eq_true (by omega : lenN s.data.toList ≠ 0), Bool.true_and, hsz, decide_eq_true h64, Bool.and_true]
        have HR := hide hR2
        rw [hR]
        clear hcons hF hp hsz hR hR2
        go_enter Tryz.func85, Tryz.ntmps85
        go_wp2_with (go_at_call 119; refine hl.mono ?_; rintro e w' ⟨rfl, rfl⟩)
        go_loop [3] (fun n => ∃ k : Nat, n = .int .i64 k ∧ k ≤ s.size ∧ Hid (k ≤ lenN s.data.toList)) (fun n => s.size - (Go.RowKit.intOf n).toNat)
        case atStart => exact ⟨0, rfl, by omega, hide (Nat.zero_le _)⟩
        case round =>
          obtain ⟨k, rfl, hk, hkl⟩ := hrel
          by_cases hlt : k < s.size
          · have hi : (k : Int) < s.size := by omega
            have hm := nmay_any (s[k]'hlt) w
            have HS := hide (lenN_step HP.out hkl.out (data_getElem_ s k hlt))
            cases hL : isL (s[k]'hlt) with
            | true =>
              have HG := hide (HS.out.1 hL)
              rw [hL] at hm
              clear hL
              go_wp2_with (go_at_call 120; refine hm.mono ?_; rintro e w' ⟨rfl, rfl⟩)
              go_round
              case rel => exact ⟨k + 1, by go_num, by omega, HG⟩
              case measure => simp [Go.RowKit.intOf]; omega
            | false =>
              have hR : R = false := by rw [HR.out, ← HS.out.2 hL]; exact decide_eq_false (by omega)
              rw [hL] at hm
              have HG := hide hR
              clear hL hR
              go_wp2_with (go_at_call 120; refine hm.mono ?_; rintro e w' ⟨rfl, rfl⟩)
              go_ret
              exact ⟨by rw [HG.out]; rfl, rfl⟩
          · have hR : R = true := by
              rw [HR.out]
              have := lenN_le s.data.toList
              have := hkl.out
              have hsz : s.data.toList.length = s.size := rfl
              exact decide_eq_true (by omega)
            have HG := hide hR
            have hi : ¬ (k : Int) < s.size := by omega
            clear hR
            go_wp2_with fail
            go_ret
            exact ⟨by rw [HG.out]; rfl, rfl⟩
    · have hp : plainB s.data.toList = false := by
        unfold plainB
        rw [decide_eq_false (by omega : ¬ s.data.toList.length ≤ 64), Bool.and_false]
      rw [hp]
      have hi64 : (64 : Int) < s.size := by omega
      have e0 : ((s.size : Int) == 0) = false := by rw [beq_eq_false_iff_ne]; omega
      have e0' : s.size ≠ 0 := by omega
      clear hp hsz
      go_enter Tryz.func85, Tryz.ntmps85
      go_wp2
      go_ret
      exact ⟨rfl, rfl⟩
  · have hz : s.data.toList = [] := List.eq_nil_of_length_eq_zero (by omega)
    obtain rfl : s = ⟨#[]⟩ := by
      cases s with
      | mk d => congr 1; exact Array.toList_inj.1 hz
    clear hz hsz h0
    go_enter Tryz.func85, Tryz.ntmps85
    go_wp2
    go_ret
    exact ⟨rfl, rfl⟩

set_option maxHeartbeats 4000000 in
theorem rsplit_big (s : ByteArray) (w : World) (hs : s.size ≤ 9223372036854775807) : Calls Tryz.prog 44 #[.string s] w fun e w' => e = .returned (splitV s.data.toList) ∧ Fr (fun _ => False) w w' := by
  have hsz : s.data.toList.length = s.size := rfl
  have hP := rplain_big s w hs
  cases hp : plainB s.data.toList with
  | true =>
    obtain ⟨p1, p2⟩ := plainB_le hp
    have hv : splitV s.data.toList = .tuple #[.string ⟨#[]⟩, .string s, .bool true] := by
      unfold splitV
      rw [splitN_plain p2 p1]
    rw [hv]
    rw [hp] at hP
    clear hv hp p1 p2 hsz
    go_enter Tryz.func44, Tryz.ntmps44
    go_wp2_with (go_at_call 85; refine hP.mono ?_; rintro e w' ⟨rfl, rfl⟩)
    go_returns
    exact ⟨rfl, Fr.refl _ _⟩
  | false =>
    rw [hp] at hP
    by_cases h64 : s.size ≤ 64
    · have hi64 : (s.size : Int) ≤ 64 := by omega
      have hnp : plainN s.data.toList ≠ true := fun h => by
        unfold plainB at hp
        rw [h, decide_eq_true (by omega : s.data.toList.length ≤ 64)] at hp
        cases hp
      have HNP := hide hnp
      obtain ⟨V, hV⟩ : ∃ V, splitV s.data.toList = V := ⟨_, rfl⟩
      rw [hV]
      have HV := hide hV
      have hpl : ∀ (t : ByteArray) (W : World), t.size ≤ 64 → Calls Tryz.prog 85 #[.string t] W fun e w' => e = .returned (.bool (plainN t.data.toList)) ∧ W = w' := fun t W ht => by
        have h := rplain_big t W (by omega)
        have e : plainB t.data.toList = plainN t.data.toList := by
          unfold plainB
          rw [decide_eq_true (show t.data.toList.length ≤ 64 from ht), Bool.and_true]
        rw [e] at h
        exact h
      have HPL := hide hpl
      clear hp hnp hV hpl
      go_enter Tryz.func44, Tryz.ntmps44
      go_wp2_with (go_at_call 85; refine hP.mono ?_; rintro e w' ⟨rfl, rfl⟩)
      go_loop [5] (fun n => ∃ k : Nat, n = .int .i64 k ∧ k ≤ s.size ∧ Hid (∀ i, i < k → s.data.toList[i]? = some 58 → plainN (s.data.toList.take i) = true → plainN (s.data.toList.drop (i + 1)) ≠ true)) (fun n => s.size - (Go.RowKit.intOf n).toNat)
      case atStart => exact ⟨0, rfl, by omega, hide (fun i hi => by omega)⟩
      case round =>
        obtain ⟨k, rfl, hk, hall⟩ := hrel
        by_cases hlt : k < s.size
        · have hi : (k : Int) < s.size := by omega
          have hget := data_getElem_ s k hlt
          have HA := hide (fun (hn : ¬ (s.data.toList[k]? = some 58 ∧ plainN (s.data.toList.take k) = true ∧ plainN (s.data.toList.drop (k + 1)) = true)) =>
            hide (show ∀ i, i < k + 1 → s.data.toList[i]? = some 58 → plainN (s.data.toList.take i) = true → plainN (s.data.toList.drop (i + 1)) ≠ true from fun i hi h1 h2 h3 => by
              rcases Nat.lt_or_ge i k with h | h
              · exact hall.out i h h1 h2 h3
              · obtain rfl : i = k := by omega
                exact hn ⟨h1, h2, h3⟩))
          by_cases h58 : s[k]'hlt = 58
          · have b58 : ((s[k]'hlt).toNat : Int) = 58 := by rw [h58]; rfl
            rw [h58] at hget
            have hz1 : (s.extract 0 k).size ≤ 64 := by simp; omega
            have hz2 : (s.extract (k + 1) s.size).size ≤ 64 := by simp; omega
            have d1 : (s.extract 0 k).data.toList = s.data.toList.take k := by rw [extract_data, List.drop_zero, Nat.sub_zero]
            have d2 : (s.extract (k + 1) s.size).data.toList = s.data.toList.drop (k + 1) := by rw [extract_data, List.take_of_length_le (by rw [List.length_drop]; omega)]
            have P1 := fun W => HPL.out (s.extract 0 k) W hz1
            have P2 := fun W => HPL.out (s.extract (k + 1) s.size) W hz2
            rw [d1] at P1
            rw [d2] at P2
            cases hp1 : plainN (s.data.toList.take k) with
            | false =>
              rw [hp1] at P1 HA
              have HG := hide (HA.out (fun h => by have := h.2.1; cases this))
              have HP1 := hide P1
              clear h58 hz1 hz2 d1 d2 P1 P2 hp1 hget HA hsz
              go_wp2_with (go_at_call 85; refine (HP1.out _).mono ?_; rintro e w' ⟨rfl, rfl⟩)
              go_round
              case rel => exact ⟨k + 1, by go_num, by omega, HG.out⟩
              case measure => simp [Go.RowKit.intOf]; omega
            | true =>
              rw [hp1] at P1
              cases hp2 : plainN (s.data.toList.drop (k + 1)) with
              | false =>
                rw [hp2] at P2 HA
                have HG := hide (HA.out (fun h => by have := h.2.2; cases this))
                have HP1 := hide P1
                have HP2 := hide P2
                clear h58 hz1 hz2 d1 d2 P1 P2 hp1 hp2 hget HA hsz
                go_wp2_with (go_at_call 85; (first | go_fit (HP2.out _) | go_fit (HP1.out _)); rintro e w' ⟨rfl, rfl⟩)
                go_round
                case rel => exact ⟨k + 1, by go_num, by omega, HG.out⟩
                case measure => simp [Go.RowKit.intOf]; omega
              | true =>
                rw [hp2] at P2
                have hv : V = .tuple #[.string (s.extract 0 k), .string (s.extract (k + 1) s.size), .bool true] := by
                  rw [← HV.out]
                  unfold splitV
                  rw [splitN_colon (by omega) hget hp1 hp2]
                  show Value.tuple #[.string ⟨(s.data.toList.take k).toArray⟩, .string ⟨(s.data.toList.drop (k + 1)).toArray⟩, .bool true] = _
                  rw [← self_mk d1, ← self_mk d2]
                have HG := hide hv
                have HP1 := hide P1
                have HP2 := hide P2
                have ew : IntKind.i64.wrap ((k : Int) + 1) = (k : Int) + 1 := IntWalk.i64_in _ (by omega)
                have ek : ((k : Int) + 1).toNat = k + 1 := by omega
                have ek2 : 0 ≤ (k : Int) + 1 := by omega
                have ek3 : (k : Int) + 1 ≤ s.size := by omega
                clear h58 hz1 hz2 d1 d2 P1 P2 hp1 hp2 hget HA hv hsz
                go_wp2_with (go_at_call 85; (first | go_fit (HP2.out _) | go_fit (HP1.out _)); rintro e w' ⟨rfl, rfl⟩)
                go_quiet (fail)
                go_wp2
                go_returns
                exact ⟨by rw [HG.out]; rfl, (Fr.refl _ _).drewN _⟩
          · have b58 : (((s[k]'hlt).toNat : Int) == 58) = false := by
              rw [beq_eq_false_iff_ne]
              intro e
              exact h58 (UInt8.toNat_inj.1 (by show _ = 58; omega))
            have HG := hide (HA.out (fun h => h58 (by rw [hget] at h; exact Option.some.inj h.1)))
            clear h58 hget HA hsz
            go_wp2_with fail
            go_round
            case rel => exact ⟨k + 1, by go_num, by omega, HG.out⟩
            case measure => simp [Go.RowKit.intOf]; omega
        · obtain rfl : k = s.size := by omega
          have hv : V = .tuple #[.string ⟨#[]⟩, .string ⟨#[]⟩, .bool false] := by
            rw [← HV.out]
            unfold splitV
            rw [splitN_none HNP.out (fun i h1 h2 => hall.out i (by have := (List.getElem?_eq_some_iff.1 h1).1; omega) h1 h2)]
          have HG := hide hv
          clear hv hsz
          go_wp2_with fail
          go_returns
          exact ⟨by rw [HG.out]; rfl, Fr.refl _ _⟩
    · have hv : splitV s.data.toList = .tuple #[.string ⟨#[]⟩, .string ⟨#[]⟩, .bool false] := by
        unfold splitV splitN
        rw [if_pos (by omega)]
      rw [hv]
      have hi64 : (64 : Int) < s.size := by omega
      clear hv hp hsz
      go_enter Tryz.func44, Tryz.ntmps44
      go_wp2_with (go_at_call 85; refine hP.mono ?_; rintro e w' ⟨rfl, rfl⟩)
      go_returns
      exact ⟨rfl, Fr.refl _ _⟩
end Go.Proofs.YtalbehjjgdedcaaGreatDoor

namespace Go.Proofs.YtalbehjjgdedcaaGreatDoor
open Go.RowKit Go.Lib
attribute [local go_sem ↓] Go.wp_at_zero Go.wp_at_succ

/-- a part's box -/
structure PartAt (w : World) (pb : Nat) (kind : Int) (name : ByteArray) (av : Value) (text : ByteArray) (rm : Bool) : Prop where
  blk : w.heap[pb]? = some (.cells #[.int .i64 kind, .string name, av, .string text, .bool rm] 42 (0, 0))
namespace PartAt
variable {w w' : World} {pb : Nat} {kind : Int} {name text : ByteArray} {av : Value} {rm : Bool}
theorem fr {fp : Nat → Prop} (h : PartAt w pb kind name av text rm) (f : Fr fp w w') (hb : ¬ fp pb) : PartAt w' pb kind name av text rm := ⟨(f.block pb (Array.getElem?_eq_some_iff.1 h.blk).1 hb).trans h.blk⟩
theorem lt (h : PartAt w pb kind name av text rm) : pb < w.heap.size := (Array.getElem?_eq_some_iff.1 h.blk).1
theorem facts (h : PartAt w pb kind name av text rm) : w.cell? ⟨pb, 0, none⟩ = some (.int .i64 kind) ∧ w.cell? ⟨pb, 1, none⟩ = some (.string name) ∧ w.cell? ⟨pb, 2, none⟩ = some av ∧ w.cell? ⟨pb, 3, none⟩ = some (.string text) ∧ w.cell? ⟨pb, 4, none⟩ = some (.bool rm) := by
  refine ⟨?_, ?_, ?_, ?_, ?_⟩
  · rw [cell_of_row w pb 0 _ _ _ h.blk]; rfl
  · rw [cell_of_row w pb 1 _ _ _ h.blk]; rfl
  · rw [cell_of_row w pb 2 _ _ _ h.blk]; rfl
  · rw [cell_of_row w pb 3 _ _ _ h.blk]; rfl
  · rw [cell_of_row w pb 4 _ _ _ h.blk]; rfl
end PartAt

/-- what written answers -/
def WrittenPost (p : PartM) (w : World) (e : Ending) (w' : World) : Prop :=
  Fr (fun _ => False) w w' ∧ match writtenP p with
  | none => ∃ (t nm tx : ByteArray) (k : Int) (A : Option Addr) (m c : Nat) (i : Int), e = .returned (.tuple #[.string t, .agg #[.int .u8 k, .string nm, .slice A m c, .string tx, .int .i64 i], .bool false])
  | some (t, x) => ∃ A c o, e = .returned (.tuple #[.string ⟨t.toArray⟩, .agg #[.int .u8 x.kind, .string ⟨x.name.toArray⟩, .slice A x.attrs.length c, .string ⟨x.text.toArray⟩, .int .i64 0], .bool true]) ∧
      Own pairC w' 38 (.slice A x.attrs.length c) o (x.attrs.map toPair) ∧ ∀ k, o = some k → w.heap.size ≤ k ∧ k < w'.heap.size
theorem WrittenPost.no {p : PartM} {w w' : World} {t nm tx : ByteArray} {k : Int} {A : Option Addr} {m c : Nat} {i : Int} (h : writtenP p = none) (f : Fr (fun _ => False) w w') :
    WrittenPost p w (.returned (.tuple #[.string t, .agg #[.int .u8 k, .string nm, .slice A m c, .string tx, .int .i64 i], .bool false])) w' := by
  refine ⟨f, ?_⟩
  rw [h]
  exact ⟨t, nm, tx, k, A, m, c, i, rfl⟩
theorem WrittenPost.yes {p : PartM} {w w' : World} {t nm tx : ByteArray} {k : Int} {av : Value} {tl : List UInt8} {x : Tok} {o : Option Nat} (h : writtenP p = some (tl, x)) (f : Fr (fun _ => False) w w') (ht : t.data.toList = tl) (hk : k = x.kind) (hn : nm = ⟨x.name.toArray⟩) (hx : tx = ⟨x.text.toArray⟩)
    (ho : Own pairC w' 38 av o (x.attrs.map toPair)) (hw : ∀ k, o = some k → w.heap.size ≤ k ∧ k < w'.heap.size) :
    WrittenPost p w (.returned (.tuple #[.string t, .agg #[.int .u8 k, .string nm, av, .string tx, .int .i64 0], .bool true])) w' := by
  refine ⟨f, ?_⟩
  rw [h]
  obtain ⟨A, c, rfl, -, -⟩ := ho.form
  rw [List.length_map] at ho ⊢
  subst hk hn hx ht
  exact ⟨A, c, o, rfl, ho, hw⟩

/-- where written's round stands -/
structure WriteJ (w : World) (rb pb tb : Nat) (p : PartM) (nm tx : ByteArray) (A : Option Addr) (n c : Nat) (k : Int) (rm : Bool) (ats : List (ByteArray × ByteArray)) (S : Nat → Prop) (wr : World) (i : Nat) (out : ByteArray) (B : Option Addr) (d : Nat) (o : Option Nat) : Prop where
  part : PartAt wr pb k nm (.slice A n c) tx rm
  box : TokAt wr rb 0 ⟨#[]⟩ (.slice none 0 0) ⟨#[]⟩ 0
  tok : TokAt wr tb 1 nm (.slice B i d) ⟨#[]⟩ 0
  rd : Rd pairC wr S (.slice A n c) ats
  own : Own pairC wr 38 (.slice B i d) o (ats.take i)
  new : ∀ x, o = some x → w.heap.size ≤ x ∧ x < wr.heap.size ∧ x ≠ rb ∧ x ≠ pb ∧ x ≠ tb
  good : ∀ q ∈ p.attrs.take i, attrOk q
  out : out.data.toList = 60 :: (p.name ++ putA (p.attrs.take i))
  fr : Fr (fun _ => False) w wr
  news : w.heap.size ≤ rb ∧ w.heap.size ≤ pb ∧ w.heap.size ≤ tb ∧ ¬ rb = pb ∧ ¬ rb = tb ∧ ¬ pb = tb

def partM (k : Int) (nm : ByteArray) (ats : List (ByteArray × ByteArray)) (tx : ByteArray) (rm : Bool) : PartM := ⟨k, nm.data.toList, ats.map (fun q => (q.1.data.toList, q.2.data.toList)), tx.data.toList, rm⟩
theorem toPair_self (ats : List (ByteArray × ByteArray)) : (ats.map (fun q => (q.1.data.toList, q.2.data.toList))).map toPair = ats := by
  rw [List.map_map]
  conv => rhs; rw [← List.map_id ats]
  rfl
theorem app_toList (a b : ByteArray) : (a ++ b).data.toList = a.data.toList ++ b.data.toList := by simp

set_option maxRecDepth 100000 in
set_option maxHeartbeats 4000000 in
theorem written_text_any (w : World) (k : Int) (nm tx : ByteArray) (A : Option Addr) (n c : Nat) (rm : Bool) (ats : List (ByteArray × ByteArray)) (hk : k.tmod 4 = 0) (ht : tx.size ≤ 40) :
    Calls Tryz.prog 17 #[.agg #[.int .i64 k, .string nm, .slice A n c, .string tx, .bool rm]] w (WrittenPost (partM k nm ats tx rm) w) := by
  have f0 : Fr (fun _ => False) w ((w.alloc (.cells #[.int .i64 k, .string nm, .slice A n c, .string tx, .bool rm] 42)).alloc (.cells #[.int .u8 0, .string ⟨#[]⟩, .slice none 0 0, .string ⟨#[]⟩, .int .i64 0] 33)) := Fr.alloc (Fr.alloc (Fr.refl _ _) _) _
  have b1 : PartAt ((w.alloc (.cells #[.int .i64 k, .string nm, .slice A n c, .string tx, .bool rm] 42)).alloc (.cells #[.int .u8 0, .string ⟨#[]⟩, .slice none 0 0, .string ⟨#[]⟩, .int .i64 0] 33)) w.heap.size k nm (.slice A n c) tx rm := by
    refine ⟨?_⟩
    rw [Below.heap_alloc _ _ _ (by simp)]
    exact heap_alloc_new w _
  have b2 : TokAt ((w.alloc (.cells #[.int .i64 k, .string nm, .slice A n c, .string tx, .bool rm] 42)).alloc (.cells #[.int .u8 0, .string ⟨#[]⟩, .slice none 0 0, .string ⟨#[]⟩, .int .i64 0] 33)) (w.heap.size + 1) 0 ⟨#[]⟩ (.slice none 0 0) ⟨#[]⟩ 0 := by
    refine ⟨?_⟩
    have := heap_alloc_new (w.alloc (.cells #[.int .i64 k, .string nm, .slice A n c, .string tx, .bool rm] 42)) (.cells #[.int .u8 0, .string ⟨#[]⟩, .slice none 0 0, .string ⟨#[]⟩, .int .i64 0] 33)
    simpa using this
  have F0 := hide f0
  have B1 := hide b1
  have B2 := hide b2
  obtain ⟨z0, z1, z2, z3, z4⟩ := b1.facts
  clear f0 b1 b2
  have hkm : kindM k = 0 := by unfold kindM; rw [if_pos hk]
  have henc := fun W => rencode_any tx false W (by omega)
  obtain ⟨R, hR⟩ : ∃ R, writtenP (partM k nm ats tx rm) = R := ⟨_, rfl⟩
  have hw := hR
  unfold writtenP at hw
  rw [if_pos (show kindM (partM k nm ats tx rm).kind = 0 from hkm)] at hw
  unfold encodeR at henc
  have hshape : ∃ (et : ByteArray) (er : Int), (∀ W, Calls Tryz.prog 43 #[.string tx, .bool false] W fun e w' => e = .returned (.tuple #[.string et, .int .i64 er]) ∧ Fr (fun _ => False) W w') ∧
      ((er = 0 ∧ 0 < et.size ∧ R = some (et.data.toList, ⟨4, [], [], tx.data.toList, 0⟩)) ∨ (er = 0 ∧ et = ⟨#[]⟩ ∧ R = none) ∨ ((er != 0) = true ∧ (er == 0) = false ∧ R = none)) := by
    by_cases hv : (validR tx.data.toList).2 = 0
    · rw [if_pos hv] at henc
      refine ⟨⟨(encL false tx.data.toList).toArray⟩, 0, fun W => henc W, ?_⟩
      by_cases he : encL false tx.data.toList = []
      · refine .inr (.inl ⟨rfl, by rw [he], ?_⟩)
        rw [if_neg (fun h => h.2 he)] at hw
        exact hw.symm
      · refine .inl ⟨rfl, ?_, ?_⟩
        · rw [mk_size]
          exact List.length_pos_iff.2 he
        · rw [if_pos (show _ from ⟨hv, he⟩)] at hw
          exact hw.symm
    · rw [if_neg hv] at henc
      refine ⟨⟨#[]⟩, 10, fun W => henc W, .inr (.inr ⟨by decide, by decide, ?_⟩)⟩
      rw [if_neg (fun h => hv h.1)] at hw
      exact hw.symm
  obtain ⟨et, er, hE, hcase⟩ := hshape
  have HE := hide hE
  clear hE henc hw hkm
  rcases hcase with ⟨rfl, hp, hRR⟩ | ⟨rfl, rfl, hRR⟩ | ⟨her, her2, hRR⟩
  · obtain ⟨iE, iE2⟩ := ne_nil_ hp
    have HW := hide (hR.trans hRR)
    clear hR hRR hp
    go_enter Tryz.func17, Tryz.ntmps17
    go_wp2_with (go_at_call 43; refine (HE.out _).mono ?_; rintro e w1 ⟨rfl, f1⟩; have P1 := hide (B1.out.fr f1 (fun h => h)); have T1 := hide (B2.out.fr f1 (fun h => h)); have F1 := hide f1; obtain ⟨y0, y1, y2, y3, y4⟩ := P1.out.facts; obtain ⟨x0, x1, x2, x3, x4, x5⟩ := T1.out.facts)
    go_region
    obtain ⟨W, hW, tW, fW⟩ := T1.out.store5 4 ⟨#[]⟩ (.slice none 0 0) tx 0
    rw [hW]
    go_wp2_with fail
    obtain ⟨a0, a1, a2, a3, a4, a5⟩ := tW.facts
    refine bodyPost_ret (v := .tuple #[.string et, .agg #[.int .u8 4, .string ⟨#[]⟩, .slice none 0 0, .string tx, .int .i64 0], .bool true]) (by simp [results, Tryz.results17, go_sem, a0, a1, a2, a3, a4]) rfl ?_
    exact WrittenPost.yes HW.out (Fr.drew ((F0.out.trans F1.out).then_ fW (fun k h1 h2 => by omega))) rfl rfl rfl rfl (Own.nil_ _ _ _ _) (fun x hx => by cases hx)
  · have HW := hide (hR.trans hRR)
    clear hR hRR
    go_enter Tryz.func17, Tryz.ntmps17
    go_wp2_with (go_at_call 43; refine (HE.out _).mono ?_; rintro e w1 ⟨rfl, f1⟩; have P1 := hide (B1.out.fr f1 (fun h => h)); have T1 := hide (B2.out.fr f1 (fun h => h)); have F1 := hide f1; obtain ⟨y0, y1, y2, y3, y4⟩ := P1.out.facts; obtain ⟨x0, x1, x2, x3, x4, x5⟩ := T1.out.facts)
    go_region
    obtain ⟨W, hW, tW, fW⟩ := T1.out.store5 4 ⟨#[]⟩ (.slice none 0 0) tx 0
    rw [hW]
    go_wp2_with fail
    obtain ⟨a0, a1, a2, a3, a4, a5⟩ := tW.facts
    refine bodyPost_ret (v := .tuple #[.string ⟨#[]⟩, .agg #[.int .u8 4, .string ⟨#[]⟩, .slice none 0 0, .string tx, .int .i64 0], .bool false]) (by simp [results, Tryz.results17, go_sem, a0, a1, a2, a3, a4]) rfl ?_
    exact WrittenPost.no HW.out (Fr.drew ((F0.out.trans F1.out).then_ fW (fun k h1 h2 => by omega)))
  · have HW := hide (hR.trans hRR)
    clear hR hRR
    go_enter Tryz.func17, Tryz.ntmps17
    go_wp2_with (go_at_call 43; refine (HE.out _).mono ?_; rintro e w1 ⟨rfl, f1⟩; have P1 := hide (B1.out.fr f1 (fun h => h)); have T1 := hide (B2.out.fr f1 (fun h => h)); have F1 := hide f1; obtain ⟨y0, y1, y2, y3, y4⟩ := P1.out.facts; obtain ⟨x0, x1, x2, x3, x4, x5⟩ := T1.out.facts)
    go_region
    obtain ⟨W, hW, tW, fW⟩ := T1.out.store5 4 ⟨#[]⟩ (.slice none 0 0) tx 0
    rw [hW]
    go_wp2_with fail
    obtain ⟨a0, a1, a2, a3, a4, a5⟩ := tW.facts
    refine bodyPost_ret (v := .tuple #[.string et, .agg #[.int .u8 4, .string ⟨#[]⟩, .slice none 0 0, .string tx, .int .i64 0], .bool false]) (by simp [results, Tryz.results17, go_sem, a0, a1, a2, a3, a4]) rfl ?_
    exact WrittenPost.no HW.out (Fr.drew ((F0.out.trans F1.out).then_ fW (fun k h1 h2 => by omega)))
end Go.Proofs.YtalbehjjgdedcaaGreatDoor

namespace Go.Proofs.YtalbehjjgdedcaaGreatDoor
open Go.RowKit Go.Lib
attribute [local go_sem ↓] Go.wp_at_zero Go.wp_at_succ

theorem kind_other {k m : Int} (hk : k.tmod 4 = m) (h0 : m ≠ 0) (h2 : m ≠ 2) : kindM k = if m = 3 then 3 else 1 := by
  unfold kindM
  rw [hk, if_neg h0, if_neg h2]

set_option maxRecDepth 100000 in
set_option maxHeartbeats 8000000 in
theorem written_tag_any (w : World) (k : Int) (nm tx : ByteArray) (A : Option Addr) (n c : Nat) (rm : Bool) (ats : List (ByteArray × ByteArray)) (S : Nat → Prop) (hr : Rd pairC w S (.slice A n c) ats) (hS : ∀ x, S x → x < w.heap.size)
    (m : Int) (hk : k.tmod 4 = m) (h0 : m ≠ 0) (hn5 : n ≤ 5) (hnm : nm.size ≤ 9223372036854775807) (hv : ∀ q ∈ ats, q.2.size ≤ 40 ∧ q.1.size ≤ 9223372036854775807) :
    Calls Tryz.prog 17 #[.agg #[.int .i64 k, .string nm, .slice A n c, .string tx, .bool rm]] w (WrittenPost (partM k nm ats tx rm) w) := by
  have f0 : Fr (fun _ => False) w ((w.alloc (.cells #[.int .i64 k, .string nm, .slice A n c, .string tx, .bool rm] 42)).alloc (.cells #[.int .u8 0, .string ⟨#[]⟩, .slice none 0 0, .string ⟨#[]⟩, .int .i64 0] 33)) := Fr.alloc (Fr.alloc (Fr.refl _ _) _) _
  have b1 : PartAt ((w.alloc (.cells #[.int .i64 k, .string nm, .slice A n c, .string tx, .bool rm] 42)).alloc (.cells #[.int .u8 0, .string ⟨#[]⟩, .slice none 0 0, .string ⟨#[]⟩, .int .i64 0] 33)) w.heap.size k nm (.slice A n c) tx rm := by
    refine ⟨?_⟩
    rw [Below.heap_alloc _ _ _ (by simp)]
    exact heap_alloc_new w _
  have b2 : TokAt ((w.alloc (.cells #[.int .i64 k, .string nm, .slice A n c, .string tx, .bool rm] 42)).alloc (.cells #[.int .u8 0, .string ⟨#[]⟩, .slice none 0 0, .string ⟨#[]⟩, .int .i64 0] 33)) (w.heap.size + 1) 0 ⟨#[]⟩ (.slice none 0 0) ⟨#[]⟩ 0 := by
    refine ⟨?_⟩
    have := heap_alloc_new (w.alloc (.cells #[.int .i64 k, .string nm, .slice A n c, .string tx, .bool rm] 42)) (.cells #[.int .u8 0, .string ⟨#[]⟩, .slice none 0 0, .string ⟨#[]⟩, .int .i64 0] 33)
    simpa using this
  obtain ⟨hnl, hn63⟩ := hr.len_eq
  have F0 := hide f0
  have B1 := hide b1
  have B2 := hide b2
  have HRD := hide (hr.fr f0 (fun x hx => ⟨hS x hx, fun h => h⟩))
  have HSS := hide hS
  have HS := hide (fun x hx => Nat.lt_of_lt_of_le (hS x hx) f0.size)
  have hlt := f0.size
  have hbl := b2.lt
  have HLT := hide (And.intro (show w.heap.size + 1 < ((w.alloc (.cells #[.int .i64 k, .string nm, .slice A n c, .string tx, .bool rm] 42)).alloc (.cells #[.int .u8 0, .string ⟨#[]⟩, .slice none 0 0, .string ⟨#[]⟩, .int .i64 0] 33)).heap.size from hbl) hlt)
  obtain ⟨z0, z1, z2, z3, z4⟩ := b1.facts
  clear f0 b1 b2 hr hS hlt hbl
  have hm0 : (m == 0) = false := by simpa using h0
  have hkm0 : kindM k ≠ 0 := by unfold kindM; rw [hk, if_neg h0]; repeat' split
                                all_goals decide
  have hsp := fun W => rsplit_big nm W hnm
  have HNL := hide hnl
  have HV := hide hv
  clear hnl hv
  cases hs : splitN nm.data.toList with
  | none =>
    have hw : writtenP (partM k nm ats tx rm) = none := by
      unfold writtenP
      rw [if_neg (show ¬ kindM (partM k nm ats tx rm).kind = 0 from hkm0), if_pos (show (splitN (partM k nm ats tx rm).name).isSome = false from by show (splitN nm.data.toList).isSome = false; rw [hs]; rfl)]
    unfold splitV at hsp
    rw [hs] at hsp
    have HW := hide hw
    have HSP := hide hsp
    clear hw hs hsp hkm0 h0
    go_enter Tryz.func17, Tryz.ntmps17
    go_wp2_with (go_at_call 44; refine (HSP.out _).mono ?_; rintro e w1 ⟨rfl, f1⟩; have T1 := hide (B2.out.fr f1 (fun h => h)); have F1 := hide f1; obtain ⟨x0, x1, x2, x3, x4, x5⟩ := T1.out.facts)
    obtain ⟨W, hW, tW, fW⟩ := T1.out.store5 0 ⟨#[]⟩ (.slice none 0 0) ⟨#[]⟩ 0
    rw [hW]
    obtain ⟨a0, a1, a2, a3, a4, a5⟩ := tW.facts
    refine bodyPost_ret (v := .tuple #[.string ⟨#[]⟩, .agg #[.int .u8 0, .string ⟨#[]⟩, .slice none 0 0, .string ⟨#[]⟩, .int .i64 0], .bool false]) (by simp [results, Tryz.results17, go_sem, a0, a1, a2, a3, a4]) rfl ?_
    exact WrittenPost.no HW.out ((F0.out.trans F1.out).then_ fW (fun k h1 h2 => by omega))
  | some pr =>
    obtain ⟨sa, sb⟩ := pr
    unfold splitV at hsp
    rw [hs] at hsp
    have HSP := hide hsp
    have hname : ¬ (splitN (partM k nm ats tx rm).name).isSome = false := by show ¬ (splitN nm.data.toList).isSome = false; rw [hs]; simp
    have hnm64 : nm.size ≤ 64 := (splitN_cases hs).1
    clear hsp hs
    by_cases h2 : m = 2
    · subst h2
      have hw : writtenP (partM k nm ats tx rm) = some (60 :: 47 :: (nm.data.toList ++ [62]), ⟨2, nm.data.toList, [], [], 0⟩) := by
        unfold writtenP
        rw [if_neg (show ¬ kindM (partM k nm ats tx rm).kind = 0 from hkm0), if_neg hname, if_pos (show kindM (partM k nm ats tx rm).kind = 2 from by show kindM k = 2; unfold kindM; rw [hk, if_neg (by decide), if_pos rfl])]
        rfl
      have HW := hide hw
      clear hw hkm0 h0 hname
      go_enter Tryz.func17, Tryz.ntmps17
      go_wp2_with (go_at_call 44; refine (HSP.out _).mono ?_; rintro e w1 ⟨rfl, f1⟩; have T1 := hide (B2.out.fr f1 (fun h => h)); have P1 := hide (B1.out.fr f1 (fun h => h)); have F1 := hide f1; obtain ⟨x0, x1, x2, x3, x4, x5⟩ := T1.out.facts; obtain ⟨y0, y1, y2, y3, y4⟩ := P1.out.facts)
      go_region
      obtain ⟨W, hW, tW, fW⟩ := T1.out.store5 2 nm (.slice none 0 0) ⟨#[]⟩ 0
      rw [hW]
      go_wp2_with fail
      obtain ⟨a0, a1, a2, a3, a4, a5⟩ := tW.facts
      refine bodyPost_ret (v := .tuple #[.string (⟨#[60, 47]⟩ ++ nm ++ ⟨#[62]⟩), .agg #[.int .u8 2, .string nm, .slice none 0 0, .string ⟨#[]⟩, .int .i64 0], .bool true]) (by simp [results, Tryz.results17, go_sem, a0, a1, a2, a3, a4]) rfl ?_
      exact WrittenPost.yes HW.out (Fr.drew ((F0.out.trans F1.out).then_ fW (fun k h1 h2 => by omega))) (by rw [app_toList, app_toList]; rfl) rfl (mk_self nm).symm rfl (Own.nil_ _ _ _ _) (fun x hx => by cases hx)
    · have hm2 : (m == 2) = false := by simpa using h2
      have hkm := kind_other hk h0 h2
      have hw : ((∀ q ∈ (partM k nm ats tx rm).attrs, attrOk q) → writtenP (partM k nm ats tx rm) = some (60 :: (nm.data.toList ++ (putA (partM k nm ats tx rm).attrs ++ endB (kindM k))), ⟨kindM k, nm.data.toList, (partM k nm ats tx rm).attrs, [], 0⟩)) ∧
          ((¬ ∀ q ∈ (partM k nm ats tx rm).attrs, attrOk q) → writtenP (partM k nm ats tx rm) = none) := by
        have h1 : ¬ kindM (partM k nm ats tx rm).kind = 0 := hkm0
        have h2 : ¬ kindM (partM k nm ats tx rm).kind = 2 := by show ¬ kindM k = 2; rw [hkm]; split <;> decide
        unfold writtenP
        rw [if_neg h1, if_neg hname, if_neg h2]
        exact ⟨fun h => by rw [if_pos h]; rfl, fun h => by rw [if_neg h]⟩
      have HW := hide hw
      have HKM := hide hkm
      clear hw hkm hkm0 hname h0 h2
      go_enter Tryz.func17, Tryz.ntmps17
      go_wp2_with (go_at_call 44; refine (HSP.out _).mono ?_; rintro e w1 ⟨rfl, f1⟩; have T1 := hide (B2.out.fr f1 (fun h => h)); have P1 := hide (B1.out.fr f1 (fun h => h)); have F1 := hide f1; have R1 := hide (HRD.out.fr f1 (fun x hx => ⟨HS.out x hx, fun h => h⟩)); obtain ⟨x0, x1, x2, x3, x4, x5⟩ := T1.out.facts; obtain ⟨y0, y1, y2, y3, y4⟩ := P1.out.facts)
      have hs1 := F1.out.size
      have hlt1 := HLT.out.1
      have HJ0 := hide (show WriteJ w (w.heap.size + 1) w.heap.size w1.heap.size (partM k nm ats tx rm) nm tx A n c k rm ats S (w1.alloc (.cells #[.int .u8 1, .string nm, .slice none 0 0, .string ⟨#[]⟩, .int .i64 0] 33)) 0 (⟨#[60]⟩ ++ nm) none 0 none from
        ⟨P1.out.fr (Fr.alloc (Fr.refl (fun _ => False) _) _) (fun h => h), T1.out.fr (Fr.alloc (Fr.refl (fun _ => False) _) _) (fun h => h), ⟨heap_alloc_new w1 _⟩,
          R1.out.fr (Fr.alloc (Fr.refl (fun _ => False) _) _) (fun x hx => ⟨Nat.lt_of_lt_of_le (HS.out x hx) hs1, fun h => h⟩), Own.nil_ _ _ _ _, fun x hx => (by cases hx), fun q hq => (by simp at hq),
          by rw [app_toList]; simp [putA, partM], Fr.alloc (F0.out.trans F1.out) _, by omega⟩)
      have HS1 := hide (fun x hx => Nat.lt_of_lt_of_le (HS.out x hx) hs1)
      clear hs1 hlt1
      go_loopw [11, 13] (fun ov iv wr => ∃ (i : Nat) (out : ByteArray) (B : Option Addr) (d : Nat) (o : Option Nat), ov = .string out ∧ iv = .int .i64 i ∧ i ≤ n ∧ Hid (WriteJ w (w.heap.size + 1) w.heap.size w1.heap.size (partM k nm ats tx rm) nm tx A n c k rm ats S wr i out B d o ∧ w1.heap.size < wr.heap.size)) (fun _ iv _ => n - (Go.RowKit.intOf iv).toNat)
      case atStart => exact ⟨0, _, none, 0, none, rfl, rfl, Nat.zero_le _, hide ⟨HJ0.out, by simp⟩⟩
      case round =>
        obtain ⟨i, out, B, d, o, rfl, rfl, hin, hJJ⟩ := hrel
        have hJ := hide hJJ.out.1
        have hnn := hJ.out.news
        obtain ⟨t0, t1, t2, t3, t4, t5⟩ := hJ.out.tok.facts
        obtain ⟨x0, x1, x2, x3, x4, x5⟩ := hJ.out.box.facts
        obtain ⟨y0, y1, y2, y3, y4⟩ := hJ.out.part.facts
        have hosz : out.size ≤ 2000 := by
          have h1 : out.data.toList.length = out.size := rfl
          have h2 : nm.data.toList.length = nm.size := rfl
          have h3 := putA_len (l := (partM k nm ats tx rm).attrs.take i) (fun q hq => ⟨hJ.out.good q hq, by
            obtain ⟨q', hq', rfl⟩ := List.mem_map.1 (List.mem_of_mem_take hq)
            exact (HV.out q' hq').1⟩)
          have h4 : ((partM k nm ats tx rm).attrs.take i).length ≤ i := by rw [List.length_take]; omega
          rw [← h1, hJ.out.out, List.length_cons, List.length_append]
          show (nm.data.toList.length + _) + 1 ≤ 2000
          omega
        by_cases hlt : i < n
        · have hii : (i : Int) < n := by omega
          obtain ⟨L, hL⟩ : ∃ L, ats.take i = L := ⟨_, rfl⟩
          have hLl : L.length = i := by rw [← hL, List.length_take, HNL.out]; omega
          subst hLl
          have hia : L.length < ats.length := by rw [HNL.out]; exact hlt
          obtain ⟨g, off, cp, hv', -, -, hg, hc⟩ := hJ.out.rd.at_ (i := L.length) hia
          simp only [Value.slice.injEq] at hv'
          obtain ⟨rfl, -, rfl⟩ := hv'
          have q0 := hc 0 (by decide)
          have q1 := hc 1 (by decide)
          have hgr : g < wr.heap.size := Nat.lt_trans (HS1.out g hg) hJJ.out.2
          have hmem : ats[L.length] ∈ ats := List.getElem_mem hia
          obtain ⟨v1, v2⟩ := HV.out _ hmem
          have htk : ats.take (L.length + 1) = L ++ [ats[L.length]] := by rw [List.take_add_one, hL, List.getElem?_eq_getElem hia]; rfl
          have hta : (partM k nm ats tx rm).attrs.take (L.length + 1) = (partM k nm ats tx rm).attrs.take L.length ++ [(ats[L.length].1.data.toList, ats[L.length].2.data.toList)] := by
            show (ats.map _).take _ = (ats.map _).take _ ++ _
            rw [← List.map_take, htk, List.map_append, ← List.map_take, hL]
            rfl
          have hmm : (ats[L.length].1.data.toList, ats[L.length].2.data.toList) ∈ (partM k nm ats tx rm).attrs := List.mem_map_of_mem (f := fun q : ByteArray × ByteArray => (q.1.data.toList, q.2.data.toList)) hmem
          have hno : ¬ attrOk (ats[L.length].1.data.toList, ats[L.length].2.data.toList) → writtenP (partM k nm ats tx rm) = none := fun hb => by
            exact HW.out.2 (fun h => hb (h _ hmm))
          have own := hJ.out.own
          rw [hL] at own
          have OWN := hide own
          have HTK := hide htk
          have HTA := hide hta
          clear hc hmem htk hta hmm own
          generalize ats[L.length] = q at *
          obtain ⟨an, av⟩ := q
          simp only at v1 v2 hno
          have HNO := hide hno
          simp only [pairC, Nat.add_zero, List.getElem?_cons_zero, List.getElem?_cons_succ, ← Nat.add_assoc] at q0 q1
          have hsa := fun W => rsplit_big an W v2
          have hen := fun W => rencode_any av true W (by omega)
          unfold encodeR at hen
          unfold splitV at hsa
          clear hno hia hL
          cases hs : splitN an.data.toList with
          | none =>
            rw [hs] at hsa
            have HSA := hide hsa
            have hbad : ¬ attrOk (an.data.toList, av.data.toList) := fun h => by have := h.1; simp only at this; rw [hs] at this; cases this
            obtain ⟨et, er, het⟩ : ∃ (et : ByteArray) (er : Int), ∀ W, Calls Tryz.prog 43 #[.string av, .bool true] W fun e w' => e = .returned (.tuple #[.string et, .int .i64 er]) ∧ Fr (fun _ => False) W w' := ⟨_, _, hen⟩
            have HEN := hide het
            clear hsa hen het hs
            go_wp2_with (first
            | (go_at_call 44; refine (HSA.out _).mono ?_; rintro e w2 ⟨rfl, f2⟩; have F2 := hide f2; have P2 := hide (hJ.out.part.fr f2 (fun h => h)); obtain ⟨b0, b1, b2, b3, b4⟩ := P2.out.facts; have c1 := (f2.cell (p := ⟨g, off + L.length * 2 + 1, none⟩) hgr (fun h => h)).trans q1)
            | (go_at_call 43; refine (HEN.out _).mono ?_; rintro e w3 ⟨rfl, f3⟩; have F3 := hide (F2.out.trans f3); have P3 := hide (hJ.out.part.fr F3.out (fun h => h)); have X3 := hide (hJ.out.box.fr F3.out (fun h => h)); have T3 := hide (hJ.out.tok.fr F3.out (fun h => h)); obtain ⟨d0, d1, d2, d3, d4⟩ := P3.out.facts; obtain ⟨e0, e1, e2, e3, e4, e5⟩ := X3.out.facts; obtain ⟨h0, h1, h2, h3, h4, h5⟩ := T3.out.facts; have c2 := (F3.out.cell (p := ⟨g, off + L.length * 2, none⟩) hgr (fun h => h)).trans q0; have c3 := (F3.out.cell (p := ⟨g, off + L.length * 2 + 1, none⟩) hgr (fun h => h)).trans q1))
            obtain ⟨W, hW, tW, fW⟩ := X3.out.store5 0 ⟨#[]⟩ (.slice none 0 0) ⟨#[]⟩ 0
            rw [hW]
            obtain ⟨a0, a1, a2, a3, a4, a5⟩ := tW.facts
            refine bodyPost_ret (v := .tuple #[.string ⟨#[]⟩, .agg #[.int .u8 0, .string ⟨#[]⟩, .slice none 0 0, .string ⟨#[]⟩, .int .i64 0], .bool false]) (by simp [results, Tryz.results17, go_sem, a0, a1, a2, a3, a4]) rfl ?_
            exact WrittenPost.no (HNO.out hbad) ((hJ.out.fr.trans F3.out).then_ fW (fun k h1 h2 => by omega))
          | some pr2 =>
            obtain ⟨sa2, sb2⟩ := pr2
            rw [hs] at hsa
            have HSA := hide hsa
            by_cases hv : (validR av.data.toList).2 = 0
            · rw [if_pos hv] at hen
              obtain ⟨et, het⟩ : ∃ et : ByteArray, (⟨(encL true av.data.toList).toArray⟩ : ByteArray) = et := ⟨_, rfl⟩
              unfold wp2 at hen
              simp only at hen
              rw [het] at hen
              have HEN := hide hen
              have han64 : an.size ≤ 64 := (splitN_cases hs).1
              have hetz : et.size ≤ 240 := by
                have h1 := enc_len6 true av.data.toList
                have h2 : av.data.toList.length = av.size := rfl
                rw [← het, mk_size]
                omega
              have hok : attrOk (an.data.toList, av.data.toList) := ⟨by show (splitN an.data.toList).isSome = true; rw [hs]; rfl, hv⟩
              have HOK := hide hok
              have HET := hide (show et.data.toList = encL true av.data.toList by rw [← het])
              have i32 : ¬ (32 : Int) ≤ L.length := by omega
              have i32b : (L.length : Int) < 32 := by omega
              clear hsa hen het hs hok
              go_wp2_with (first
            | (go_at_call 44; refine (HSA.out _).mono ?_; rintro e w2 ⟨rfl, f2⟩; have F2 := hide f2; have P2 := hide (hJ.out.part.fr f2 (fun h => h)); obtain ⟨b0, b1, b2, b3, b4⟩ := P2.out.facts; have c1 := (f2.cell (p := ⟨g, off + L.length * 2 + 1, none⟩) hgr (fun h => h)).trans q1)
            | (go_at_call 43; refine (HEN.out _).mono ?_; rintro e w3 ⟨rfl, f3⟩; have F3 := hide (F2.out.trans f3); have P3 := hide (hJ.out.part.fr F3.out (fun h => h)); have X3 := hide (hJ.out.box.fr F3.out (fun h => h)); have T3 := hide (hJ.out.tok.fr F3.out (fun h => h)); obtain ⟨d0, d1, d2, d3, d4⟩ := P3.out.facts; obtain ⟨e0, e1, e2, e3, e4, e5⟩ := X3.out.facts; obtain ⟨h0, h1, h2, h3, h4, h5⟩ := T3.out.facts; have c2 := (F3.out.cell (p := ⟨g, off + L.length * 2, none⟩) hgr (fun h => h)).trans q0; have c3 := (F3.out.cell (p := ⟨g, off + L.length * 2 + 1, none⟩) hgr (fun h => h)).trans q1))
              have OWN3 := hide (OWN.out.fr F3.out (fun _ _ h => h))
              have HLEN := hide (show L.length ≤ 1000000 by omega)
              have nb : ¬ o = some w1.heap.size := fun e => (hJ.out.new _ e).2.2.2.2 rfl
              have ltb : w1.heap.size < w3.heap.size := Nat.lt_of_lt_of_le hJJ.out.2 F3.out.size
              go_region_law ((refine step_append_Own (by rfl) (by rfl) el_attr (by rfl) (by rfl) (OWN3.out.fr (Fr.alloc (Fr.drew (Fr.refl (fun _ => False) _)) _) (fun _ _ h => h)) (rd_pair _ _ _ _) (by have := HLEN.out; (try simp); omega) ?_; intro A' cap' w4 o' hown hfr' hnew; have hfr1 := (Fr.alloc (Fr.drew (Fr.refl (fun k => o = some k) w3)) _).trans hfr'; have j1 := (hfr1.cell (p := ⟨w1.heap.size, 2, none⟩) ltb nb).trans h2; have fz := (hfr1.frozen (p := ⟨w1.heap.size, 2, none⟩) ltb nb).trans (h5 2)))
              all_goals
                go_wp2
                go_roundw
                case rel =>
                  have hown2 : Own pairC w4 38 (.slice A' (L.length + 1) cap') o' (L ++ [(an, av)]) := by simpa using hown
                  have hA := (Fr.alloc (Fr.drew (Fr.refl (fun _ => False) w3)) (.cells #[.string an, .string av] 38)).size
                  have hs3 := F3.out.size
                  have hsr := hJ.out.fr.size
                  have hs4 := hfr1.size
                  have hnew2 : ∀ x, o' = some x → o = some x ∨ (wr.heap.size ≤ x ∧ x < w4.heap.size) := fun x hx => (hnew x hx).imp id (fun h => ⟨Nat.le_trans hs3 (Nat.le_trans hA h.1), h.2⟩)
                  have fs := Fr.set_b w4 w1.heap.size 2 (.slice A' (L.length + 1) cap')
                  have hss := fs.size
                  have npb : ¬ o = some w.heap.size := fun e => (hJ.out.new _ e).2.2.2.1 rfl
                  have nrb : ¬ o = some (w.heap.size + 1) := fun e => (hJ.out.new _ e).2.2.1 rfl
                  have hw1 := hJJ.out.2
                  have hpl := hJ.out.part.lt
                  have hbl := hJ.out.box.lt
                  have hgw := HS1.out
                  refine ⟨L.length + 1, _, A', cap', o', rfl, by go_num, by omega, hide ⟨⟨(P3.out.fr hfr1 npb).fr fs hnn.2.2.2.2.2, (X3.out.fr hfr1 nrb).fr fs hnn.2.2.2.2.1, (T3.out.fr hfr1 nb).attrs_ _,
                    ((hJ.out.rd.fr F3.out (fun x hx => ⟨Nat.lt_trans (hgw x hx) hw1, fun h => h⟩)).fr hfr1 (fun x hx => ⟨by have := hgw x hx; omega, fun e => ?_⟩)).fr fs (fun x hx => ⟨by have := hgw x hx; omega, fun e => by have h5 := hgw x hx; have e5 : x = w1.heap.size := e; omega⟩),
                    ?_, fun x hx => ?_, fun q hq => ?_, ?_, ((hJ.out.fr.trans F3.out).then_ hfr1 (fun x h1 h2 => by have := (hJ.out.new x h2).1; omega)).then_ fs (fun x h1 h2 => by omega), hnn⟩, by omega⟩⟩
                  · have := HSS.out x hx
                    have := (hJ.out.new x e).1
                    omega
                  · rw [HTK.out]
                    refine hown2.fr fs (fun x hx e => ?_)
                    rcases hnew2 x hx with h | h
                    · exact nb (by rw [h, e])
                    · omega
                  · rcases hnew2 x hx with h | h
                    · have := hJ.out.new x h
                      exact ⟨this.1, by omega, this.2.2.1, this.2.2.2.1, this.2.2.2.2⟩
                    · exact ⟨by omega, by omega, by omega, by omega, by omega⟩
                  · rw [HTA.out] at hq
                    rcases List.mem_append.1 hq with hq | hq
                    · exact hJ.out.good q hq
                    · rw [List.mem_singleton] at hq
                      rw [hq]
                      exact HOK.out
                  · rw [HTA.out, putA_snoc]
                    simp only [app_toList, hJ.out.out, HET.out]
                    simp
                case measure => simp [Go.RowKit.intOf]; omega
            · rw [if_neg hv] at hen
              have HEN := hide (show ∀ W, Calls Tryz.prog 43 #[.string av, .bool true] W fun e w' => e = .returned (.tuple #[.string ⟨#[]⟩, .int .i64 10]) ∧ Fr (fun _ => False) W w' from hen)
              have hbad : ¬ attrOk (an.data.toList, av.data.toList) := fun h => hv h.2
              clear hsa hen hs hv
              go_wp2_with (first
              | (go_at_call 44; refine (HSA.out _).mono ?_; rintro e w2 ⟨rfl, f2⟩; have F2 := hide f2; have P2 := hide (hJ.out.part.fr f2 (fun h => h)); obtain ⟨b0, b1, b2, b3, b4⟩ := P2.out.facts; have c1 := (f2.cell (p := ⟨g, off + L.length * 2 + 1, none⟩) hgr (fun h => h)).trans q1)
              | (go_at_call 43; refine (HEN.out _).mono ?_; rintro e w3 ⟨rfl, f3⟩; have F3 := hide (F2.out.trans f3); have P3 := hide (hJ.out.part.fr F3.out (fun h => h)); have X3 := hide (hJ.out.box.fr F3.out (fun h => h)); have T3 := hide (hJ.out.tok.fr F3.out (fun h => h)); obtain ⟨d0, d1, d2, d3, d4⟩ := P3.out.facts; obtain ⟨e0, e1, e2, e3, e4, e5⟩ := X3.out.facts; obtain ⟨h0, h1, h2, h3, h4, h5⟩ := T3.out.facts; have c2 := (F3.out.cell (p := ⟨g, off + L.length * 2, none⟩) hgr (fun h => h)).trans q0; have c3 := (F3.out.cell (p := ⟨g, off + L.length * 2 + 1, none⟩) hgr (fun h => h)).trans q1))
              obtain ⟨W, hW, tW, fW⟩ := X3.out.store5 0 ⟨#[]⟩ (.slice none 0 0) ⟨#[]⟩ 0
              rw [hW]
              obtain ⟨a0, a1, a2, a3, a4, a5⟩ := tW.facts
              refine bodyPost_ret (v := .tuple #[.string ⟨#[]⟩, .agg #[.int .u8 0, .string ⟨#[]⟩, .slice none 0 0, .string ⟨#[]⟩, .int .i64 0], .bool false]) (by simp [results, Tryz.results17, go_sem, a0, a1, a2, a3, a4]) rfl ?_
              exact WrittenPost.no (HNO.out hbad) ((hJ.out.fr.trans F3.out).then_ fW (fun k h1 h2 => by omega))
        · obtain rfl : i = n := by omega
          have hta : (partM k nm ats tx rm).attrs.take i = (partM k nm ats tx rm).attrs := List.take_of_length_le (by show (ats.map _).length ≤ i; rw [List.length_map, HNL.out]; omega)
          have hat2 : ats.take i = ats := List.take_of_length_le (by rw [HNL.out]; omega)
          have hgood := hJ.out.good
          have hout := hJ.out.out
          have hown := hJ.out.own
          rw [hta] at hgood hout
          rw [hat2] at hown
          have hw := HW.out.1 hgood
          have hown2 : Own pairC wr 38 (.slice B i d) o ((partM k nm ats tx rm).attrs.map toPair) := by rw [show (partM k nm ats tx rm).attrs.map toPair = ats from toPair_self ats]; exact hown
          have HWN := hide hw
          have HOWN := hide hown2
          have HOUT := hide hout
          clear hgood hout hown hw hown2 hta hat2 hlt
          by_cases h3 : m = 3
          · subst h3
            have hkk := HKM.out
            rw [if_pos rfl] at hkk
            have HK := hide hkk
            clear hkk
            have TK := hide (hJ.out.tok.kind_ 3)
            have f9 := hide (Fr.set_b wr w1.heap.size 0 (.int .u8 3))
            have BK := hide (hJ.out.box.fr f9.out (fun h => hnn.2.2.2.2.1 h))
            obtain ⟨q0, q1, q2, q3, q4, q5⟩ := TK.out.facts
            obtain ⟨r0, r1, r2, r3, r4, r5⟩ := BK.out.facts
            go_wp2_with fail
            go_region
            obtain ⟨W, hW, tW, fW⟩ := BK.out.store5 3 nm (.slice B i d) ⟨#[]⟩ 0
            rw [hW]
            go_wp2_with fail
            obtain ⟨a0, a1, a2, a3, a4, a5⟩ := tW.facts
            refine bodyPost_ret (v := .tuple #[.string (out ++ ⟨#[47, 62]⟩), .agg #[.int .u8 3, .string nm, .slice B i d, .string ⟨#[]⟩, .int .i64 0], .bool true]) (by simp [results, Tryz.results17, go_sem, a0, a1, a2, a3, a4]) rfl ?_
            refine WrittenPost.yes HWN.out (Fr.drew ((hJ.out.fr.then_ f9.out (fun k h1 h2 => by omega)).then_ fW (fun k h1 h2 => by omega))) (by rw [app_toList, HOUT.out, HK.out]; simp [endB]; rfl) (by rw [HK.out]; rfl) (mk_self nm).symm rfl ((HOWN.out.fr f9.out (fun x hx e => (hJ.out.new x hx).2.2.2.2 e)).fr fW.drew (fun x hx e => (hJ.out.new x hx).2.2.1 e)) (fun x hx => ⟨(hJ.out.new x hx).1, Nat.lt_of_lt_of_le (Nat.lt_of_lt_of_le (hJ.out.new x hx).2.1 f9.out.size) fW.size⟩)
          · have hm3 : (m == 3) = false := by simpa using h3
            have hkk := HKM.out
            rw [if_neg h3] at hkk
            have HK := hide hkk
            clear hkk h3
            go_wp2_with fail
            go_region
            obtain ⟨W, hW, tW, fW⟩ := hJ.out.box.store5 1 nm (.slice B i d) ⟨#[]⟩ 0
            rw [hW]
            go_wp2_with fail
            obtain ⟨a0, a1, a2, a3, a4, a5⟩ := tW.facts
            refine bodyPost_ret (v := .tuple #[.string (out ++ ⟨#[62]⟩), .agg #[.int .u8 1, .string nm, .slice B i d, .string ⟨#[]⟩, .int .i64 0], .bool true]) (by simp [results, Tryz.results17, go_sem, a0, a1, a2, a3, a4]) rfl ?_
            refine WrittenPost.yes HWN.out (Fr.drew (hJ.out.fr.then_ fW (fun k h1 h2 => by omega))) (by rw [app_toList, HOUT.out, HK.out]; simp [endB]; rfl) (by rw [HK.out]; rfl) (mk_self nm).symm rfl (HOWN.out.fr fW.drew (fun x hx e => (hJ.out.new x hx).2.2.1 e)) (fun x hx => ⟨(hJ.out.new x hx).1, Nat.lt_of_lt_of_le (hJ.out.new x hx).2.1 fW.size⟩)
end Go.Proofs.YtalbehjjgdedcaaGreatDoor
