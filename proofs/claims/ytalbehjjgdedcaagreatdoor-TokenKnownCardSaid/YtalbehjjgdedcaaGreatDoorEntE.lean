/- entity: Reference, Decode. -/
import Derived.Test.YtalbehjjgdedcaaGreatDoorEntD
import Derived.Deep.DeepFit
namespace Go.Proofs.YtalbehjjgdedcaaGreatDoor
open Go.RowKit Go.Lib
attribute [local go_sem ↓] Go.wp_at_zero Go.wp_at_succ

theorem cut_len {l : List UInt8} (h1 : hasPrefix l [38] = true) (h2 : (cut l [59]).2.2 = true) : 1 ≤ (cut l [59]).1.length ∧ (cut l [59]).1.length ≤ l.length := by
  by_cases hs : (59 : UInt8) ∈ l
  · obtain ⟨a, r, rfl, ha⟩ := mem_split_first hs
    rw [cut_one ha]
    cases a with
    | nil => simp [hasPrefix, List.isPrefixOf] at h1
    | cons b a => simp
  · rw [cut_no hs] at h2
    cases h2
theorem lookup_names (w w' : World) (k : ByteArray) (h : w.alloc (.map nameEs 5) = w') :
    (Instr.lookup 187 (.map (some w.heap.size)) (.string k) false).run Tryz.prog w' = .ok (.agg #[.string ⟨(nameV k.data.toList).toArray⟩]) w' := by
  subst h
  rw [run_lookup_s Tryz.underlying187 Tryz.underlying9 (names_map w) k (word_zero _) false]
  unfold nameF nameV
  cases List.find? (fun p => p.1 == k.data.toList) nameL <;> rfl

theorem names_at (k c : ByteArray) (hc : c = ⟨(nameV k.data.toList).toArray⟩) (w : World) : Calls Tryz.prog 129 #[] w fun e w' =>
    ∃ b, e = .returned (.map (some b)) ∧ (Instr.lookup 187 (.map (some b)) (.string k) false).run Tryz.prog w' = .ok (.agg #[.string c]) w' ∧ Fr (fun _ => False) w w' := by
  refine (names_any w).mono ?_
  rintro e w' ⟨rfl, rfl⟩
  exact ⟨_, rfl, by rw [hc]; exact lookup_names w _ k rfl, Fr.alloc (Fr.refl _ _) _⟩

theorem field_word (c : ByteArray) (W : World) : (Instr.field 190 (.agg #[.string c]) 0).run Tryz.prog W = .ok (.string c) W := by kernel_rfl

set_option maxRecDepth 100000 in
set_option maxHeartbeats 4000000 in
theorem reference_any (s : ByteArray) (w : World) (hst : St w) (hs : s.size ≤ 1000000) :
    Calls Tryz.prog 113 #[.string s] w fun e w' => e = .returned (.tuple #[.string ⟨(refP s.data.toList).1.toArray⟩, .int .i64 (refP s.data.toList).2]) ∧ Fr (fun _ => False) w w' := by
  have hl : s.data.toList.length = s.size := rfl
  obtain ⟨ml, hml⟩ := hst.ml
  have HP := hide (Tryz.strings_HasPrefix s ⟨#[38]⟩ w)
  have HC := hide (fun W hW => Tryz.strings_Cut s ⟨#[59]⟩ ml W (by omega) hW)
  have HML := hide hml
  have HST := hide hst
  clear hml
  simp only at HP HC
  cases h1 : hasPrefix s.data.toList [38] with
  | false =>
    have hr : refP s.data.toList = ([], 0) := by unfold refP; rw [if_neg (fun h => by rw [h1] at h; cases h.1)]
    rw [hr]
    rw [h1] at HP
    clear h1 hr hst
    go_enter Tryz.func113, Tryz.ntmps113
    go_wp2_with (go_at_call 141; refine HP.out.mono ?_; rintro e w1 ⟨rfl, rfl⟩)
    go_ret2
    exact ⟨rfl, Fr.refl _ _⟩
  | true =>
    rw [h1] at HP
    cases h2 : (cut s.data.toList [59]).2.2 with
    | false =>
      have hr : refP s.data.toList = ([], 0) := by unfold refP; rw [if_neg (fun h => by rw [h2] at h; cases h.2.1)]
      rw [hr]
      rw [h2] at HC
      clear h1 h2 hr hst
      go_enter Tryz.func113, Tryz.ntmps113
      go_wp2_with (first
        | (go_at_call 141; refine HP.out.mono ?_; rintro e w1 ⟨rfl, rfl⟩)
        | (go_at_call 72; refine (HC.out _ HML.out).mono ?_; rintro e w2 ⟨rfl, n2, rfl⟩))
      go_ret2
      exact ⟨rfl, (Fr.refl _ _).drewN _⟩
    | true =>
      obtain ⟨hn1, hn2⟩ := cut_len h1 h2
      have hr : refP s.data.toList = if saysP ((cut s.data.toList [59]).1.drop 1) = [] then ([], 0) else (saysP ((cut s.data.toList [59]).1.drop 1), (cut s.data.toList [59]).1.length + 1) := by
        unfold refP
        by_cases h : saysP ((cut s.data.toList [59]).1.drop 1) = []
        · rw [if_neg (fun hh => hh.2.2 h), if_pos h]
        · rw [if_pos ⟨h1, h2, h⟩, if_neg h]
      rw [hr]
      rw [h2] at HC
      clear h1 h2 hr hst
      generalize (cut s.data.toList [59]).2.1 = rest at *
      obtain ⟨nm, hnm⟩ : ∃ nm : ByteArray, nm = ⟨(cut s.data.toList [59]).1.toArray⟩ := ⟨_, rfl⟩
      have hnl : nm.data.toList = (cut s.data.toList [59]).1 := by rw [hnm]
      rw [← hnm] at HC
      rw [← hnl] at hn1 hn2 ⊢
      have hsz : nm.data.toList.length = nm.size := rfl
      rw [hsz] at hn1 hn2 ⊢
      clear hnm hnl hsz
      have hnb : nm.size ≤ 1000000 := by omega
      obtain ⟨nt, hnt⟩ : ∃ nt : ByteArray, nt = nm.extract 1 nm.size := ⟨_, rfl⟩
      have hntl : nt.data.toList = nm.data.toList.drop 1 := by rw [hnt, extract_to_end]
      have hntz : nt.size ≤ 1000000 := by
        have : nt.data.toList.length = nt.size := rfl
        rw [hntl, List.length_drop] at this
        have h3 : nm.data.toList.length = nm.size := rfl
        omega
      rw [← hntl]
      have hsl : ∀ W : World, (Instr.slice 9 (.string nm) (some (.int .i64 1)) none none).run Tryz.prog W = .ok (.string nt) W := fun W => by
        rw [hnt, run_slice_string_l (P := Tryz.prog) W 9 nm Tryz.underlying9 .i64 1 (by omega) (by omega)]
        rfl
      clear hntl hnt hn1 hn2
      have hne : ∀ l : List UInt8, l ≠ [] → (⟨l.toArray⟩ : ByteArray).toList.isEmpty = false ∧ ¬ (⟨l.toArray⟩ : ByteArray).toList = [] := fun l h => by
        have : 1 ≤ (⟨l.toArray⟩ : ByteArray).size := by
          show 1 ≤ l.toArray.size
          rw [List.size_toArray]
          exact List.length_pos_iff.2 h
        exact ⟨ne_empty this, ne_nil this⟩
      have HNE := hide hne
      clear hne
      have hdsz : ∀ k, (⟨(nt.data.toList.drop k).toArray⟩ : ByteArray).size ≤ 1000000 := fun k => by
        show (nt.data.toList.drop k).toArray.size ≤ _
        rw [List.size_toArray, List.length_drop]
        have : nt.data.toList.length = nt.size := rfl
        omega
      have HX := hide (fun W => Tryz.strings_CutPrefix nt ⟨#[35, 120]⟩ W)
      have HD := hide (fun W => Tryz.strings_CutPrefix nt ⟨#[35]⟩ W)
      simp only at HX HD
      obtain ⟨c, hcc⟩ : ∃ c : ByteArray, c = ⟨(saysP nt.data.toList).toArray⟩ := ⟨_, rfl⟩
      have HCC := hide hcc
      cases hx : hasPrefix nt.data.toList [35, 120] with
      | true =>
        have hsay : saysP nt.data.toList = numP 16 6 (nt.data.toList.drop 2) := by unfold saysP; rw [if_pos hx]
        have htr : trimPrefix nt.data.toList [35, 120] = nt.data.toList.drop 2 := by unfold trimPrefix; rw [if_pos hx]; rfl
        rw [hx, htr] at HX
        have hn := fun W hW => number_any 16 6 (by decide) (by omega) ⟨(nt.data.toList.drop 2).toArray⟩ W hW (hdsz 2)
        simp only [Int.cast_ofNat_Int] at hn
        rw [hsay] at hcc
        rw [← hcc] at hn
        have HN := hide hn
        generalize (⟨(nt.data.toList.drop 2).toArray⟩ : ByteArray) = nx at *
        clear hx hsay htr HD hn hcc hdsz
        by_cases hz : saysP nt.data.toList = []
        · rw [if_pos hz]
          rw [hz] at HCC
          have hcc := HCC.out
          subst hcc
          clear hz
          go_enter Tryz.func113, Tryz.ntmps113
          go_wp2_with (first
            | (go_at_call 141; refine HP.out.mono ?_; rintro e w1 ⟨rfl, rfl⟩)
            | (go_at_call 72; refine (HC.out _ HML.out).mono ?_; rintro e w2 ⟨rfl, n2, rfl⟩)
            | (go_at_call 71; go_fit (HX.out _); rintro e w3 ⟨rfl, rfl⟩)
            | (go_at_call 142; refine (HN.out _ (HST.out.same ((Fr.refl _ _).drewN _))).mono ?_; rintro e w4 ⟨rfl, f4⟩))
          go_ret2
          exact ⟨rfl, ((Fr.refl _ _).drewN _).trans f4⟩
        · rw [if_neg hz, ← HCC.out]
          have hne := HNE.out _ hz
          rw [← HCC.out] at hne
          obtain ⟨hE, hE2⟩ := hne
          clear hz
          go_enter Tryz.func113, Tryz.ntmps113
          go_wp2_with (first
            | (go_at_call 141; refine HP.out.mono ?_; rintro e w1 ⟨rfl, rfl⟩)
            | (go_at_call 72; refine (HC.out _ HML.out).mono ?_; rintro e w2 ⟨rfl, n2, rfl⟩)
            | (go_at_call 71; go_fit (HX.out _); rintro e w3 ⟨rfl, rfl⟩)
            | (go_at_call 142; refine (HN.out _ (HST.out.same ((Fr.refl _ _).drewN _))).mono ?_; rintro e w4 ⟨rfl, f4⟩))
          go_ret2
          exact ⟨rfl, ((Fr.refl _ _).drewN _).trans f4⟩
      | false =>
        have htr : trimPrefix nt.data.toList [35, 120] = nt.data.toList := by unfold trimPrefix; rw [if_neg (by rw [hx]; decide)]
        rw [hx, htr] at HX
        generalize (⟨nt.data.toList.toArray⟩ : ByteArray) = n0 at HX
        cases hd : hasPrefix nt.data.toList [35] with
        | true =>
          have hsay : saysP nt.data.toList = numP 10 7 (nt.data.toList.drop 1) := by unfold saysP; rw [if_neg (by rw [hx]; decide), if_pos hd]
          have htr : trimPrefix nt.data.toList [35] = nt.data.toList.drop 1 := by unfold trimPrefix; rw [if_pos hd]; rfl
          rw [hd, htr] at HD
          have hn := fun W hW => number_any 10 7 (by decide) (by omega) ⟨(nt.data.toList.drop 1).toArray⟩ W hW (hdsz 1)
          simp only [Int.cast_ofNat_Int] at hn
          rw [hsay] at hcc
          rw [← hcc] at hn
          have HN := hide hn
          generalize (⟨(nt.data.toList.drop 1).toArray⟩ : ByteArray) = nx at *
          clear hx hd hsay htr hn hcc hdsz
          by_cases hz : saysP nt.data.toList = []
          · rw [if_pos hz]
            rw [hz] at HCC
            have hcc := HCC.out
            subst hcc
            clear hz
            go_enter Tryz.func113, Tryz.ntmps113
            go_wp2_with (first
              | (go_at_call 141; refine HP.out.mono ?_; rintro e w1 ⟨rfl, rfl⟩)
              | (go_at_call 72; refine (HC.out _ HML.out).mono ?_; rintro e w2 ⟨rfl, n2, rfl⟩)
              | (go_at_call 71; go_fit (HX.out _); rintro e w3 ⟨rfl, rfl⟩)
              | (go_at_call 71; go_fit (HD.out _); rintro e w3 ⟨rfl, rfl⟩)
              | (go_at_call 142; refine (HN.out _ (HST.out.same ((Fr.refl _ _).drewN _))).mono ?_; rintro e w4 ⟨rfl, f4⟩))
            go_ret2
            exact ⟨rfl, ((Fr.refl _ _).drewN _).trans f4⟩
          · rw [if_neg hz, ← HCC.out]
            have hne := HNE.out _ hz
            rw [← HCC.out] at hne
            obtain ⟨hE, hE2⟩ := hne
            clear hz
            go_enter Tryz.func113, Tryz.ntmps113
            go_wp2_with (first
              | (go_at_call 141; refine HP.out.mono ?_; rintro e w1 ⟨rfl, rfl⟩)
              | (go_at_call 72; refine (HC.out _ HML.out).mono ?_; rintro e w2 ⟨rfl, n2, rfl⟩)
              | (go_at_call 71; go_fit (HX.out _); rintro e w3 ⟨rfl, rfl⟩)
              | (go_at_call 71; go_fit (HD.out _); rintro e w3 ⟨rfl, rfl⟩)
              | (go_at_call 142; refine (HN.out _ (HST.out.same ((Fr.refl _ _).drewN _))).mono ?_; rintro e w4 ⟨rfl, f4⟩))
            go_ret2
            exact ⟨rfl, ((Fr.refl _ _).drewN _).trans f4⟩
        | false =>
          have htr : trimPrefix nt.data.toList [35] = nt.data.toList := by unfold trimPrefix; rw [if_neg (by rw [hd]; decide)]
          rw [hd, htr] at HD
          generalize (⟨nt.data.toList.toArray⟩ : ByteArray) = n1 at HD
          have hsay : saysP nt.data.toList = nameV nt.data.toList := by unfold saysP; rw [if_neg (by rw [hx]; decide), if_neg (by rw [hd]; decide)]
          rw [hsay] at hcc
          have NM := hide (fun W => names_at nt c hcc W)
          have hfd := field_word
          clear hx hd hsay htr hcc hdsz
          by_cases hz : saysP nt.data.toList = []
          · rw [if_pos hz]
            rw [hz] at HCC
            have hcc := HCC.out
            subst hcc
            clear hz
            go_enter Tryz.func113, Tryz.ntmps113
            go_wp2_with (first
              | (go_at_call 141; refine HP.out.mono ?_; rintro e w1 ⟨rfl, rfl⟩)
              | (go_at_call 72; refine (HC.out _ HML.out).mono ?_; rintro e w2 ⟨rfl, n2, rfl⟩)
              | (go_at_call 71; go_fit (HX.out _); rintro e w3 ⟨rfl, rfl⟩)
              | (go_at_call 71; go_fit (HD.out _); rintro e w3 ⟨rfl, rfl⟩)
              | (go_at_call 129; refine (NM.out _).mono ?_; rintro e w4 ⟨b, rfl, hlk, f4⟩))
            go_ret2
            exact ⟨rfl, ((Fr.refl _ _).drewN _).trans f4⟩
          · rw [if_neg hz, ← HCC.out]
            have hne := HNE.out _ hz
            rw [← HCC.out] at hne
            obtain ⟨hE, hE2⟩ := hne
            clear hz
            go_enter Tryz.func113, Tryz.ntmps113
            go_wp2_with (first
              | (go_at_call 141; refine HP.out.mono ?_; rintro e w1 ⟨rfl, rfl⟩)
              | (go_at_call 72; refine (HC.out _ HML.out).mono ?_; rintro e w2 ⟨rfl, n2, rfl⟩)
              | (go_at_call 71; go_fit (HX.out _); rintro e w3 ⟨rfl, rfl⟩)
              | (go_at_call 71; go_fit (HD.out _); rintro e w3 ⟨rfl, rfl⟩)
              | (go_at_call 129; refine (NM.out _).mono ?_; rintro e w4 ⟨b, rfl, hlk, f4⟩))
            go_ret2
            exact ⟨rfl, ((Fr.refl _ _).drewN _).trans f4⟩

/-! Decode -/
def wp3 (r : List UInt8 × Nat × Int) : Value := .tuple #[.string ⟨r.1.toArray⟩, .int .i64 r.2.1, .int .i64 r.2.2]

theorem says_len (n : List UInt8) : (saysP n).length ≤ 4 := by
  have hp : ∀ c, (putL c).length ≤ 4 := fun c => by
    unfold putL
    split
    · have := encodeRuneZ_length c
      unfold encodeRune
      rw [List.length_map]
      omega
    · simp
  unfold saysP numP nameV
  split
  · split
    · exact hp _
    · simp
  · split
    · split
      · exact hp _
      · simp
    · split
      · rename_i p h
        have := List.mem_of_find?_eq_some h
        simp only [nameL, List.mem_cons, List.not_mem_nil, or_false] at this
        rcases this with rfl | rfl | rfl | rfl | rfl <;> simp
      · simp
theorem step_len (l : List UInt8) : (stepD l).1.length ≤ 4 * (stepD l).2.1 := by
  unfold stepD
  split
  · rcases refP_cases l with h1 | ⟨n, r, rfl, h2, h3, h4⟩
    · rw [h1]; simp
    · rw [h4]
      have := says_len n
      simp only
      omega
  · split
    · simp
    · simp only [List.length_take]
      omega

set_option maxRecDepth 100000 in
set_option maxHeartbeats 4000000 in
theorem decode_any (s : ByteArray) (w : World) (hst : St w) (hs : s.size ≤ 100000) :
    Calls Tryz.prog 77 #[.string s] w fun e w' => e = .returned (wp3 (decodeR s.data.toList)) ∧ Fr (fun _ => False) w w' := by
  have hl : s.data.toList.length = s.size := rfl
  have HST := hide hst
  obtain ⟨R, hR⟩ : ∃ R, decodeR s.data.toList = R := ⟨_, rfl⟩
  rw [hR]
  unfold decodeR at hR
  rw [hl] at hR
  have HR := hide hR
  have HB := hide (Bd.fresh w)
  clear hR hst
  go_enter Tryz.func77, Tryz.ntmps77
  go_wp2_with fail
  go_loopw [3] (fun i wr => ∃ (p f : Nat) (acc : List UInt8), p ≤ s.size ∧ acc.length ≤ 4 * p ∧ i = .int .i64 p ∧ Hid (Fr (fun _ => False) w wr ∧ Bd wr w.heap.size acc) ∧ Hid (decode f (s.data.toList.drop p) acc p = R ∧ s.size ≤ p + f)) (fun i _ => s.size - (Go.RowKit.intOf i).toNat)
  case atStart => exact ⟨0, s.size, [], by omega, by simp, rfl, ⟨Fr.alloc (Fr.refl _ _) _, HB.out⟩, by simpa using HR.out, by omega⟩
  case round =>
    obtain ⟨p, f, acc, hp, hacc, rfl, hfb, hd⟩ := hrel
    by_cases hps : p < s.size
    · obtain ⟨f, rfl⟩ : ∃ f', f = f' + 1 := ⟨f - 1, by have := hd.out.2; omega⟩
      have hpi : (p : Int) < (s.size : Int) := by omega
      have hext : (s.extract p s.size).data.toList = s.data.toList.drop p := extract_to_end s p
      have hsz : (s.extract p s.size).size ≤ 100000 := by
        have : (s.extract p s.size).data.toList.length = (s.extract p s.size).size := rfl
        rw [hext, List.length_drop] at this
        omega
      have hcons : s.data.toList.drop p = s[p]'hps :: s.data.toList.drop (p + 1) := by
        rw [List.drop_eq_getElem_cons (by omega)]
        rfl
      have hl0 : s.data.toList.drop p ≠ [] := by rw [hcons]; simp
      have HRF := reference_any (s.extract p s.size) wr (HST.out.same hfb.out.1) (by omega)
      rw [hext] at HRF
      have HRF := hide HRF
      have hdec := hd.out.1
      unfold decode at hdec
      rw [if_neg hl0] at hdec
      have hslen := step_len (s.data.toList.drop p)
      by_cases hr : (refP (s.data.toList.drop p)).2 ≠ 0
      · have hst2 : stepD (s.data.toList.drop p) = ((refP (s.data.toList.drop p)).1, (refP (s.data.toList.drop p)).2, 0) := by unfold stepD; rw [if_pos hr]
        have hbd := (stepD_app hl0 (by rw [hst2]) []).2.2.1
        rw [hst2] at hdec hslen hbd
        simp only [ne_eq, not_true_eq_false, if_false, List.drop_drop] at hdec hslen hbd
        rw [List.length_drop] at hbd
        have HD := hide hdec
        clear hdec hst2 hext hsz hcons hl0
        generalize (refP (s.data.toList.drop p)).1 = c at *
        generalize (refP (s.data.toList.drop p)).2 = n at *
        have hn0 : ((n : Int) == 0) = false := by simp; omega
        have hcl : (⟨c.toArray⟩ : ByteArray).size = c.length := by show c.toArray.size = _; simp
        have HW := hide (fun (W : World) (hW : Bd W w.heap.size acc) => writeString_any w.heap.size acc ⟨c.toArray⟩ W hW (by rw [hcl]; omega))
        simp only at HW
        clear hcl
        go_wp2_with (first
          | (go_at_call 113; refine HRF.out.mono ?_; rintro e w1 ⟨rfl, f1⟩)
          | (go_at_call 98; refine (HW.out _ (hfb.out.2.fr f1)).mono ?_; rintro e w2 ⟨rfl, b2, g2, -⟩))
        go_roundw
        case rel => exact ⟨p + n, f, acc ++ c, by omega, by rw [List.length_append]; omega, by go_num, ⟨(hfb.out.1.trans f1).of_below_new (Nat.le_refl _) g2, b2⟩, HD.out, by have := hd.out.2; omega⟩
        case measure => simp [Go.RowKit.intOf]; omega
      · have hr0 : refP (s.data.toList.drop p) = ([], 0) := by
          rcases refP_cases (s.data.toList.drop p) with h | ⟨a, b, _, _, _, h⟩
          · exact h
          · exact absurd (by rw [h]; simp) hr
        rw [hr0] at HRF
        have hhd : (s.data.toList.drop p).head? = some (s[p]'hps) := by rw [hcons]; rfl
        by_cases h38 : s[p]'hps = 38
        · have hst2 : stepD (s.data.toList.drop p) = ([], 0, 30) := by unfold stepD; rw [if_neg hr, hhd, h38, if_pos rfl]
          rw [hst2] at hdec
          simp only [ne_eq] at hdec
          rw [if_pos (by decide : ¬ (30 : Int) = 0)] at hdec
          have hb : (((s[p]'hps).toNat : Int)) = 38 := by rw [h38]; rfl
          clear hst2 hext hsz hcons hl0 hr0 hr hhd h38 hslen
          subst hdec
          go_wp2_with (go_at_call 113; refine HRF.out.mono ?_; rintro e w1 ⟨rfl, f1⟩)
          go_returns
          exact ⟨rfl, hfb.out.1.trans f1⟩
        · have hst2 : stepD (s.data.toList.drop p) = ((s.data.toList.drop p).take (nextR (s.data.toList.drop p)).2.1, (nextR (s.data.toList.drop p)).2.1, (nextR (s.data.toList.drop p)).2.2) := by
            unfold stepD
            rw [if_neg hr, hhd, if_neg (fun e => h38 (by simpa using e))]
          have hb : ¬ (((s[p]'hps).toNat : Int)) = 38 := fun e => h38 (UInt8.toNat_inj.1 (by show _ = 38; omega))
          have HN := fun W hW => next_any (s.extract p s.size) W hW (by omega)
          rw [hext] at HN
          by_cases he : (nextR (s.data.toList.drop p)).2.2 = 0
          · have hbd := (stepD_app hl0 (by rw [hst2]; exact he) []).2.2.1
            have hbk := (stepD_app hl0 (by rw [hst2]; exact he) []).2.1
            rw [hst2, he] at hdec
            rw [hst2] at hbd hslen hbk
            simp only [ne_eq, not_true_eq_false, if_false, List.drop_drop] at hdec hbd hslen hbk
            rw [List.length_drop] at hbd
            rw [he] at HN
            obtain ⟨c, hc⟩ : ∃ c, c = (s.data.toList.drop p).take (nextR (s.data.toList.drop p)).2.1 := ⟨_, rfl⟩
            rw [← hc] at hdec hslen
            have hcx : ∀ k, k = (nextR (s.data.toList.drop p)).2.1 → (s.extract p (p + k)).data.toList = c := fun k hk => by
              rw [extract_toList, hc, hk]
              congr 1
              omega
            have HD := hide hdec
            have HN := hide HN
            clear hdec hst2 hext hsz hcons hl0 hr0 hr hhd h38 he hc
            generalize (nextR (s.data.toList.drop p)).1 = x at *
            generalize (nextR (s.data.toList.drop p)).2.1 = k at *
            have hcx := hcx k rfl
            have hxz : (s.extract p (p + k)).size = c.length := by
              have : (s.extract p (p + k)).data.toList.length = (s.extract p (p + k)).size := rfl
              rw [← this, hcx]
            have HW := fun (W : World) (hW : Bd W w.heap.size acc) => writeString_any w.heap.size acc (s.extract p (p + k)) W hW (by rw [hxz]; omega)
            rw [hcx] at HW
            have HW := hide HW
            clear hcx hxz
            go_wp2_with (first
              | (go_at_call 113; refine HRF.out.mono ?_; rintro e w1 ⟨rfl, f1⟩)
              | (go_at_call 114; refine (HN.out _ ((HST.out.same hfb.out.1).same f1).ub).mono ?_; rintro e w2 ⟨rfl, f2⟩)
              | (go_at_call 98; refine (HW.out _ ((hfb.out.2.fr f1).fr f2)).mono ?_; rintro e w3 ⟨rfl, b3, g3, -⟩))
            go_roundw
            case rel => exact ⟨p + k, f, acc ++ c, by omega, by rw [List.length_append]; omega, by go_num, ⟨((hfb.out.1.trans f1).trans f2).of_below_new (Nat.le_refl _) g3, b3⟩, HD.out, by have := hd.out.2; omega⟩
            case measure => simp [Go.RowKit.intOf]; omega
          · rw [hst2] at hdec
            simp only [ne_eq, he, not_false_eq_true, if_true] at hdec
            have heb : ((nextR (s.data.toList.drop p)).2.2 != 0) = true := by simpa using he
            have HN := hide HN
            clear hst2 hext hsz hcons hl0 hr0 hr hhd h38 hslen he
            generalize (nextR (s.data.toList.drop p)).1 = x at *
            generalize (nextR (s.data.toList.drop p)).2.1 = k at *
            generalize (nextR (s.data.toList.drop p)).2.2 = e0 at *
            subst hdec
            go_wp2_with (first
              | (go_at_call 113; refine HRF.out.mono ?_; rintro e w1 ⟨rfl, f1⟩)
              | (go_at_call 114; refine (HN.out _ ((HST.out.same hfb.out.1).same f1).ub).mono ?_; rintro e w2 ⟨rfl, f2⟩))
            go_returns
            exact ⟨rfl, (hfb.out.1.trans f1).trans f2⟩
    · obtain rfl : p = s.size := by omega
      have hdec := hd.out.1
      rw [List.drop_of_length_le (by omega)] at hdec
      have hR : R = (acc, 0, 0) := by
        rw [← hdec]
        cases f with
        | zero => rfl
        | succ f => rfl
      subst hR
      clear hdec
      go_wp2_with (go_at_call 58; refine (bldString_any _ _ _ hfb.out.2).mono ?_; rintro e w1 ⟨rfl, b1, g1⟩)
      go_returns
      exact ⟨rfl, hfb.out.1.of_below_new (Nat.le_refl _) g1⟩
end Go.Proofs.YtalbehjjgdedcaaGreatDoor
