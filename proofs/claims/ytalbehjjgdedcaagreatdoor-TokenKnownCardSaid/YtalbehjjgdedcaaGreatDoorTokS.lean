/- Tokens in plain Lean: tags and texts, written plainly, one behind the other, are cut as they were. -/
import Derived.Test.YtalbehjjgdedcaaGreatDoorTokR
namespace Go.Proofs.YtalbehjjgdedcaaGreatDoor
open Go.Lib

theorem splitN_cases {n : List UInt8} {r : List UInt8 × List UInt8} (h : splitN n = some r) : n.length ≤ 64 ∧ (plainN n = true ∨ ∃ a b, n = a ++ 58 :: b ∧ plainN a = true ∧ plainN b = true) := by
  unfold splitN at h
  split at h
  · cases h
  · rename_i h64
    refine ⟨by omega, ?_⟩
    split at h
    · rename_i hm
      split at h
      · rename_i hp
        obtain ⟨h1, h2⟩ := colon_at hm
        refine .inr ⟨_, _, ?_, hp.1, hp.2⟩
        have := split_at h1
        rw [h2] at this
        exact this
      · cases h
    · split at h
      · rename_i hp; exact .inl hp
      · cases h
theorem plainN_first {n : List UInt8} (h : plainN n = true) : ∃ c t, n = c :: t ∧ isF c = true := by
  obtain ⟨h1, h2⟩ := (plainN_iff n).1 h
  cases n with
  | nil => simp [lenN] at h1
  | cons c t =>
    rw [lenN_cons] at h1
    split at h1
    · exact ⟨c, t, rfl, by assumption⟩
    · omega
theorem splitN_first {n : List UInt8} {r : List UInt8 × List UInt8} (h : splitN n = some r) : ∃ c t, n = c :: t ∧ isF c = true := by
  rcases (splitN_cases h).2 with h1 | ⟨a, b, rfl, h1, h2⟩
  · exact plainN_first h1
  · obtain ⟨c, t, rfl, hc⟩ := plainN_first h1
    exact ⟨c, _, rfl, hc⟩
theorem splitN_bytes {n : List UInt8} {r : List UInt8 × List UInt8} (h : splitN n = some r) : ∀ b ∈ n, isL b = true ∨ b = 58 := by
  intro b hb
  rcases (splitN_cases h).2 with h1 | ⟨a, c, rfl, h1, h2⟩
  · exact .inl (plainN_mem h1 hb)
  · rcases List.mem_append.1 hb with hb | hb
    · exact .inl (plainN_mem h1 hb)
    · rcases List.mem_cons.1 hb with hb | hb
      · exact .inr hb
      · exact .inl (plainN_mem h2 hb)
theorem isF_no {c : UInt8} (h : isF c = true) : blankB c = false ∧ c ≠ 62 ∧ c ≠ 47 ∧ c ≠ 33 ∧ c ≠ 63 := by
  refine ⟨?_, ?_, ?_, ?_, ?_⟩
  · cases hb : blankB c with
    | false => rfl
    | true =>
      have := (blank_not hb).1
      rw [isL_of_isF h] at this
      cases this
  all_goals (rintro rfl; revert h; decide)
theorem isL_ascii {b : UInt8} (h : isL b = true ∨ b = 58) : 32 ≤ b.toNat ∧ b.toNat < 128 := by
  rcases h with h | rfl
  · unfold isL isF at h
    simp only [Bool.or_eq_true, Bool.and_eq_true, decide_eq_true_eq] at h
    omega
  · decide
theorem isU_ascii : ∀ {l : List UInt8}, (∀ b ∈ l, 32 ≤ b.toNat ∧ b.toNat < 128) → IsU l
  | [], _ => .nil
  | b :: t, h => by
    have hb := h b (by simp)
    have h1 : encodeRune (b.toNat : Int) = [b] := by
      have : ∀ n : Fin 128, encodeRune ((n.val : Nat) : Int) = [n.val.toUInt8] := by decide
      have h3 := this ⟨b.toNat, hb.2⟩
      simp only at h3
      rw [h3]
      congr 1
      exact UInt8.toNat_inj.1 (by simp [Nat.toUInt8])
    have h2 : isC (b.toNat : Int) = true := by
      unfold isC
      simp only [decide_eq_true_eq]
      omega
    have := IsU.cons h2 (isU_ascii (l := t) (fun c hc => h c (by simp [hc])))
    rw [h1] at this
    exact this
theorem isU_cons {b : UInt8} {l : List UInt8} (h1 : 32 ≤ b.toNat) (h2 : b.toNat < 128) (h : IsU l) : IsU (b :: l) :=
  (isU_ascii (l := [b]) (by intro c hc; simp at hc; subst hc; exact ⟨h1, h2⟩)).append h
theorem esc_low {attr : Bool} {b : UInt8} : b.toNat < 128 → (∀ x ∈ escL attr b, 32 ≤ x.toNat ∧ x.toNat < 128) ∨ escL attr b = [b] := by
  intro _
  unfold escL
  repeat' split
  all_goals first
    | exact .inr rfl
    | (left; intro x hx; simp only [List.mem_cons, List.not_mem_nil, or_false] at hx; rcases hx with rfl | rfl | rfl | rfl | rfl | rfl <;> decide)
    | (left; intro x hx; simp only [List.mem_cons, List.not_mem_nil, or_false] at hx; rcases hx with rfl | rfl | rfl | rfl | rfl <;> decide)
    | (left; intro x hx; simp only [List.mem_cons, List.not_mem_nil, or_false] at hx; rcases hx with rfl | rfl | rfl | rfl <;> decide)
theorem low_bytes {c : Int} (h : isC c = true) (hc : c < 128) : ∃ b : UInt8, encodeRune c = [b] ∧ b.toNat < 128 := by
  have h0 : 0 ≤ c := by
    unfold isC at h
    simp only [decide_eq_true_eq] at h
    omega
  have : ∀ n : Nat, n < 128 → ∃ b : UInt8, encodeRune (n : Int) = [b] ∧ b.toNat < 128 := fun n hn => ⟨n.toUInt8, by
    have : ∀ n : Fin 128, encodeRune ((n.val : Nat) : Int) = [n.val.toUInt8] := by decide
    exact this ⟨n, hn⟩, by simp [Nat.toUInt8]; omega⟩
  have h1 := this c.toNat (by omega)
  rwa [Int.toNat_of_nonneg h0] at h1
theorem encL_app (attr : Bool) (a b : List UInt8) : encL attr (a ++ b) = encL attr a ++ encL attr b := by simp [encL]
theorem encL_isU (attr : Bool) {l : List UInt8} (h : IsU l) : IsU (encL attr l) := by
  induction h with
  | nil => exact .nil
  | @cons c l hc _ ih =>
    rw [encL_app]
    refine IsU.append ?_ ih
    by_cases h128 : c < 128
    · obtain ⟨b, hb, hb2⟩ := low_bytes hc h128
      rw [hb]
      have : encL attr [b] = escL attr b := by simp [encL]
      rw [this]
      rcases esc_low (attr := attr) hb2 with h | h
      · exact isU_ascii h
      · rw [h, ← hb]
        have := IsU.cons hc .nil
        rwa [List.append_nil] at this
    · rw [enc_high (high_bytes hc (by omega))]
      have := IsU.cons hc .nil
      rwa [List.append_nil] at this

theorem nB_not {c : UInt8} {t : List UInt8} (h : blankB c = false) : nB (c :: t) = 0 := by rw [nB_cons, if_neg (by rw [h]; decide)]
theorem get_len {n t : List UInt8} {c : UInt8} : (n ++ c :: t)[n.length]? = some c := by simp
theorem drop_len {n t : List UInt8} {k : Nat} : (n ++ t).drop (n.length + k) = t.drop k := by rw [← List.drop_drop, List.drop_left]

theorem attrP_put {n v rest : List UInt8} {r : List UInt8 × List UInt8} (hn : splitN n = some r) (h34 : (34 : UInt8) ∉ v) (h60 : (60 : UInt8) ∉ v) :
    attrP (n ++ 61 :: 34 :: (v ++ 34 :: rest)) = some (⟨n, v, n.length + 2⟩, n.length + v.length + 3) := by
  have hb : beginN (n ++ 61 :: 34 :: (v ++ 34 :: rest)) = n.length := beginN_name hn (by decide) (by decide)
  have hd : (n ++ 61 :: 34 :: (v ++ 34 :: rest)).drop n.length = 61 :: 34 :: (v ++ 34 :: rest) := List.drop_left
  have hn0 : nB (61 :: 34 :: (v ++ 34 :: rest)) = 0 := nB_not (by decide)
  have hd1 : (n ++ 61 :: 34 :: (v ++ 34 :: rest)).drop (n.length + 1) = 34 :: (v ++ 34 :: rest) := by rw [drop_len]; rfl
  have hn1 : nB (34 :: (v ++ 34 :: rest)) = 0 := nB_not (by decide)
  have hm : markAt (n ++ 61 :: 34 :: (v ++ 34 :: rest)) = n.length + 1 := by
    unfold markAt
    rw [hb, hd, hn0, Nat.add_zero, hd1, hn1]
  have htw : (v ++ 34 :: rest).takeWhile (· != 34) = v := by
    rw [List.takeWhile_append_of_pos (fun a ha => by simp only [bne_iff_ne, ne_eq]; intro e; exact h34 (e ▸ ha)), List.takeWhile_cons, if_neg (by decide), List.append_nil]
  have hpos : 0 < n.length := by
    obtain ⟨c, t, rfl, _⟩ := splitN_first hn
    simp
  refine attrP_iff.2 ⟨34, v ++ 34 :: rest, by rw [hb]; exact hpos, ?_, by rw [hm, hd1], .inl rfl, by simp, by rw [htw]; exact h60, ?_, ?_⟩
  · rw [hb, hd, hn0, Nat.add_zero]; exact get_len
  · rw [hb, htw, hm, List.take_left]
  · rw [htw, hm]; omega

def putA (l : List (List UInt8 × List UInt8)) : List UInt8 := l.flatMap fun p => 32 :: (p.1 ++ 61 :: 34 :: (encL true p.2 ++ [34]))
theorem putA_cons (p : List UInt8 × List UInt8) (l : List (List UInt8 × List UInt8)) : putA (p :: l) = 32 :: (p.1 ++ 61 :: 34 :: (encL true p.2 ++ [34])) ++ putA l := by simp [putA]
theorem putA_snoc (p : List UInt8 × List UInt8) (l : List (List UInt8 × List UInt8)) : putA (l ++ [p]) = putA l ++ 32 :: (p.1 ++ 61 :: 34 :: (encL true p.2 ++ [34])) := by simp [putA]
def attrOk (p : List UInt8 × List UInt8) : Prop := (splitN p.1).isSome = true ∧ (validR p.2).2 = 0
def endB (kind : Nat) : List UInt8 := if kind = 3 then [47, 62] else [62]

theorem attrs_put {kind : Nat} (hk : kind = 1 ∨ kind = 3) (m : List UInt8) : ∀ (l : List (List UInt8 × List UInt8)) (at_ : Nat) (acc : List RawA), (∀ p ∈ l, attrOk p) →
    ∃ more, attrsS (putA l ++ (endB kind ++ m)) at_ acc = some (kind, acc ++ more, at_ + (putA l).length + (endB kind).length) ∧ readP more = .inl l
  | [], at_, acc, _ => by
    refine ⟨[], ?_, rfl⟩
    rcases hk with rfl | rfl
    · have h1 : nB ((62 : UInt8) :: m) = 0 := nB_not (by decide)
      show attrsS (62 :: m) at_ acc = _
      rw [attrsS_step, h1, if_pos (by rfl)]
      simp [putA, endB]
    · have h1 : nB ((47 : UInt8) :: 62 :: m) = 0 := nB_not (by decide)
      show attrsS (47 :: 62 :: m) at_ acc = _
      rw [attrsS_step, h1, if_neg (by simp), if_pos ⟨rfl, rfl⟩]
      simp [putA, endB]
  | p :: l, at_, acc, h => by
    obtain ⟨h1, h2⟩ := h p (by simp)
    obtain ⟨r, hr⟩ := Option.isSome_iff_exists.1 h1
    obtain ⟨c, t, hct, hF⟩ := splitN_first hr
    obtain ⟨f1, f2, f3, -⟩ := isF_no hF
    have hU := (validR_iff p.2).1 h2
    have h34 : (34 : UInt8) ∉ encL true p.2 := fun e => by have := enc_good e; revert this; decide
    have h60 : (60 : UInt8) ∉ encL true p.2 := fun e => by have := enc_good e; revert this; decide
    obtain ⟨more, g1, g2⟩ := attrs_put hk m l (at_ + 1 + (p.1.length + (encL true p.2).length + 3)) (acc ++ [⟨p.1, encL true p.2, at_ + 1 + (p.1.length + 2)⟩]) (fun q hq => h q (by simp [hq]))
    refine ⟨⟨p.1, encL true p.2, at_ + 1 + (p.1.length + 2)⟩ :: more, ?_, ?_⟩
    · have hl : putA (p :: l) ++ (endB kind ++ m) = 32 :: (p.1 ++ 61 :: 34 :: (encL true p.2 ++ 34 :: (putA l ++ (endB kind ++ m)))) := by
        rw [putA_cons]; simp
      have hnb : nB (32 :: (p.1 ++ 61 :: 34 :: (encL true p.2 ++ 34 :: (putA l ++ (endB kind ++ m))))) = 1 := by
        rw [nB_cons, if_pos (by decide), hct, List.cons_append, nB_not f1]
      have hg : (32 :: (p.1 ++ 61 :: 34 :: (encL true p.2 ++ 34 :: (putA l ++ (endB kind ++ m)))))[1]? = some c := by rw [hct]; rfl
      rw [hl, attrsS_step, hnb, hg, if_neg (by simpa using f2), if_neg (by simp [f3]), if_neg (by simp), List.drop_succ_cons, List.drop_zero, attrP_put hr h34 h60]
      simp only
      rw [show 1 + (p.1.length + (encL true p.2).length + 3) = (p.1.length + (encL true p.2).length + 3) + 1 from by omega, List.drop_succ_cons]
      have hd : (p.1 ++ 61 :: 34 :: (encL true p.2 ++ 34 :: (putA l ++ (endB kind ++ m)))).drop (p.1.length + (encL true p.2).length + 3) = putA l ++ (endB kind ++ m) := by
        rw [Nat.add_assoc, drop_len, show (encL true p.2).length + 3 = (encL true p.2).length + 1 + 2 from rfl, List.drop_succ_cons, List.drop_succ_cons, drop_len]
        rfl
      rw [hd, g1, putA_cons]
      simp only [List.append_assoc, List.singleton_append, List.length_append, List.length_cons, List.length_nil, Option.some.injEq, Prod.mk.injEq, true_and]
      omega
    · rw [readP]
      simp only
      have hde := (enc_dec true hU).done
      rw [hde, if_neg (by simp), g2]

structure PartM where
  kind : Int
  name : List UInt8
  attrs : List (List UInt8 × List UInt8)
  text : List UInt8
  remark : Bool
def kindM (k : Int) : Nat := if k.tmod 4 = 0 then 0 else if k.tmod 4 = 2 then 2 else if k.tmod 4 = 3 then 3 else 1
open Classical in
/-- a part, and the token that it is -/
noncomputable def writtenP (p : PartM) : Option (List UInt8 × Tok) :=
  if kindM p.kind = 0 then (if (validR p.text).2 = 0 ∧ encL false p.text ≠ [] then some (encL false p.text, ⟨4, [], [], p.text, 0⟩) else none)
  else if (splitN p.name).isSome = false then none
  else if kindM p.kind = 2 then some (60 :: 47 :: (p.name ++ [62]), ⟨2, p.name, [], [], 0⟩)
  else if ∀ q ∈ p.attrs, attrOk q then some (60 :: (p.name ++ (putA p.attrs ++ endB (kindM p.kind))), ⟨kindM p.kind, p.name, p.attrs, [], 0⟩) else none
theorem kindM_or (k : Int) : kindM k = 0 ∨ kindM k = 2 ∨ kindM k = 1 ∨ kindM k = 3 := by
  unfold kindM
  repeat' split
  all_goals simp
theorem open_put {kind : Nat} (hk : kind = 1 ∨ kind = 3) {n : List UInt8} (hn : (splitN n).isSome = true) {l : List (List UInt8 × List UInt8)} (hl : ∀ p ∈ l, attrOk p) (h32 : l.length ≤ 32) (m : List UInt8) :
    tagR (60 :: (n ++ (putA l ++ (endB kind ++ m)))) = .inl (kind, n, l, 1 + n.length + (putA l).length + (endB kind).length) := by
  obtain ⟨r, hr⟩ := Option.isSome_iff_exists.1 hn
  obtain ⟨c, t, hct, hF⟩ := splitN_first hr
  obtain ⟨f1, f2, f3, -⟩ := isF_no hF
  obtain ⟨more, g1, g2⟩ := attrs_put hk m l (1 + n.length) [] hl
  have hg : (60 :: (n ++ (putA l ++ (endB kind ++ m))))[1]? = some c := by rw [hct]; rfl
  have hX : ∃ b X, putA l ++ (endB kind ++ m) = b :: X ∧ isL b = false ∧ b ≠ 58 := by
    cases l with
    | nil => rcases hk with rfl | rfl
             · exact ⟨62, m, rfl, by decide, by decide⟩
             · exact ⟨47, 62 :: m, rfl, by decide, by decide⟩
    | cons p l => exact ⟨32, _, by rw [putA_cons]; rfl, by decide, by decide⟩
  have hb : beginN (n ++ (putA l ++ (endB kind ++ m))) = n.length := by
    obtain ⟨b, X, hX, h1, h2⟩ := hX
    rw [hX]
    exact beginN_name hr h1 h2
  have hnl : n.length ≠ 0 := by rw [hct]; simp
  have hd : (60 :: (n ++ (putA l ++ (endB kind ++ m)))).drop (1 + n.length) = putA l ++ (endB kind ++ m) := by
    rw [Nat.add_comm, List.drop_succ_cons, List.drop_left]
  unfold tagR
  rw [tagP_eq, hg, if_neg (by simpa using f3), List.drop_succ_cons, List.drop_zero, hb, if_neg hnl, hd, g1]
  simp only [List.nil_append]
  rw [g2]
  simp only
  rw [if_neg (by omega), List.take_left]
theorem close_put {n : List UInt8} (hn : (splitN n).isSome = true) (m : List UInt8) : tagR (60 :: 47 :: (n ++ 62 :: m)) = .inl (2, n, [], 3 + n.length) := by
  obtain ⟨r, hr⟩ := Option.isSome_iff_exists.1 hn
  obtain ⟨c, t, hct, hF⟩ := splitN_first hr
  have hnl : n.length ≠ 0 := by rw [hct]; simp
  have hd2 : (60 :: 47 :: (n ++ 62 :: m)).drop 2 = n ++ 62 :: m := rfl
  have hb : beginN (n ++ 62 :: m) = n.length := beginN_name hr (by decide) (by decide)
  have hd : (60 :: 47 :: (n ++ 62 :: m)).drop (2 + n.length) = 62 :: m := by
    rw [Nat.add_comm, List.drop_succ_cons, List.drop_succ_cons, List.drop_left]
  have hg : (60 :: 47 :: (n ++ 62 :: m))[2 + n.length]? = some 62 := by
    rw [Nat.add_comm, List.getElem?_cons_succ, List.getElem?_cons_succ]; exact get_len
  unfold tagR
  rw [tagP_eq, if_pos (by rfl), hd2, hb, hd, nB_not (by decide), Nat.add_zero, hg, if_neg (by simp [hnl]), List.take_left]
  simp only [readP, List.length_nil]
  rw [if_neg (by omega)]
  simp only [Sum.inl.injEq, Prod.mk.injEq, true_and]
  omega

def remB : List UInt8 := [60, 33, 45, 45, 32, 60, 97, 62, 32, 45, 45, 32, 38, 32, 45, 45, 62]
theorem rem_put (m : List UInt8) : remarkP (remB ++ m) = 17 := by
  have h : remarkP remB = 17 := by decide
  rw [remarkP_app (by rw [h]; decide), h]

/-- parts that are written, and the tokens that they are -/
noncomputable def putP : List PartM → Bool → Nat → List UInt8 × List Tok
  | [], _, _ => ([], [])
  | p :: l, text, at_ => match writtenP p with
    | none => putP l text at_
    | some (t, x) =>
      if x.kind = 4 ∧ text = true ∧ p.remark = false then putP l text at_
      else
        let pre := if p.remark = true then remB else []
        let r := putP l (decide (x.kind = 4)) (at_ + pre.length + t.length)
        (pre ++ (t ++ r.1), { x with at_ := at_ + pre.length } :: r.2)
theorem written_tag {p : PartM} {t : List UInt8} {x : Tok} (h : writtenP p = some (t, x)) (hx : x.kind ≠ 4) (h5 : p.attrs.length ≤ 32) (m : List UInt8) :
    (t ++ m).head? = some 60 ∧ remarkP (t ++ m) = 0 ∧ tagR (t ++ m) = .inl (x.kind, x.name, x.attrs, t.length) ∧ x.text = [] := by
  have key : ∀ {y : List UInt8} {kind name vs k}, y.head? = some 60 → tagR y = .inl (kind, name, vs, k) → y.head? = some 60 ∧ remarkP y = 0 ∧ tagR y = .inl (kind, name, vs, k) := fun h1 h2 => by
    obtain ⟨-, -, -, -, -, -, c, hc, hcc⟩ := tagR_ok h2
    exact ⟨h1, remarkP_tag hc hcc, h2⟩
  unfold writtenP at h
  split at h
  · split at h
    · simp only [Option.some.injEq, Prod.mk.injEq] at h
      obtain ⟨rfl, rfl⟩ := h
      exact absurd rfl hx
    · cases h
  · rename_i hk0
    split at h
    · cases h
    · rename_i hn
      have hn : (splitN p.name).isSome = true := by cases hs : (splitN p.name).isSome with | true => rfl | false => exact absurd hs hn
      split at h
      · simp only [Option.some.injEq, Prod.mk.injEq] at h
        obtain ⟨rfl, rfl⟩ := h
        have hc := close_put hn m
        have e : 60 :: 47 :: (p.name ++ [62]) ++ m = 60 :: 47 :: (p.name ++ 62 :: m) := by simp
        rw [e]
        obtain ⟨k1, k2, k3⟩ := key (y := 60 :: 47 :: (p.name ++ 62 :: m)) rfl hc
        refine ⟨k1, k2, ?_, rfl⟩
        rw [k3]
        simp only [List.length_cons, List.length_append, List.length_nil, Sum.inl.injEq, Prod.mk.injEq, true_and]
        omega
      · rename_i hk2
        split at h
        · rename_i ha
          simp only [Option.some.injEq, Prod.mk.injEq] at h
          obtain ⟨rfl, rfl⟩ := h
          have hk : kindM p.kind = 1 ∨ kindM p.kind = 3 := by
            have := kindM_or p.kind
            omega
          have hc := open_put hk hn ha h5 m
          have e : 60 :: (p.name ++ (putA p.attrs ++ endB (kindM p.kind))) ++ m = 60 :: (p.name ++ (putA p.attrs ++ (endB (kindM p.kind) ++ m))) := by simp
          rw [e]
          obtain ⟨k1, k2, k3⟩ := key (y := 60 :: (p.name ++ (putA p.attrs ++ (endB (kindM p.kind) ++ m)))) rfl hc
          refine ⟨k1, k2, ?_, rfl⟩
          rw [k3]
          simp only [List.length_cons, List.length_append, Sum.inl.injEq, Prod.mk.injEq, true_and]
          omega
        · cases h
theorem written_text {p : PartM} {t : List UInt8} {x : Tok} (h : writtenP p = some (t, x)) (hx : x.kind = 4) : t ≠ [] ∧ (60 : UInt8) ∉ t ∧ decodeR t = (x.text, 0, 0) ∧ x.name = [] ∧ x.attrs = [] := by
  unfold writtenP at h
  split at h
  · split at h
    · rename_i hv
      simp only [Option.some.injEq, Prod.mk.injEq] at h
      obtain ⟨rfl, rfl⟩ := h
      exact ⟨hv.2, fun e => by have := enc_good e; revert this; decide, (enc_dec false ((validR_iff _).1 hv.1)).done, rfl, rfl⟩
    · cases h
  · split at h
    · cases h
    · split at h
      · simp only [Option.some.injEq, Prod.mk.injEq] at h
        obtain ⟨rfl, rfl⟩ := h
        cases hx
      · split at h
        · simp only [Option.some.injEq, Prod.mk.injEq] at h
          obtain ⟨rfl, rfl⟩ := h
          have := kindM_or p.kind
          simp only at hx
          omega
        · cases h
theorem putP_head : ∀ (l : List PartM) (at_ : Nat), (∀ p ∈ l, p.attrs.length ≤ 32) → (putP l true at_).1 = [] ∨ (putP l true at_).1.head? = some 60
  | [], _, _ => .inl rfl
  | p :: l, at_, h => by
    rw [putP]
    cases hw : writtenP p with
    | none => exact putP_head l at_ (fun q hq => h q (by simp [hq]))
    | some y =>
      obtain ⟨t, x⟩ := y
      simp only
      split
      · exact putP_head l at_ (fun q hq => h q (by simp [hq]))
      · rename_i hc
        right
        simp only
        cases hr : p.remark with
        | true => rfl
        | false =>
          rw [hr] at hc
          simp only [Bool.false_eq_true, if_false, List.nil_append]
          exact (written_tag hw (fun e => hc (by simp [e])) (h p (by simp)) _).1
theorem tokS_putP : ∀ (l : List PartM) (text : Bool) (at_ : Nat) (acc : List Tok), (∀ p ∈ l, p.attrs.length ≤ 32) → tokS (putP l text at_).1 at_ acc = (acc ++ (putP l text at_).2, 0, 0)
  | [], _, _, _, _ => by rw [putP, tokS_nil, List.append_nil]
  | p :: l, text, at_, acc, h => by
    have hl : ∀ q ∈ l, q.attrs.length ≤ 32 := fun q hq => h q (by simp [hq])
    rw [putP]
    cases hw : writtenP p with
    | none => exact tokS_putP l text at_ acc hl
    | some y =>
      obtain ⟨t, x⟩ := y
      simp only
      split
      · exact tokS_putP l text at_ acc hl
      · simp only
        have key : ∀ (a : Nat) (ac : List Tok), tokS (t ++ (putP l (decide (x.kind = 4)) (a + t.length)).1) a ac = (ac ++ { x with at_ := a } :: (putP l (decide (x.kind = 4)) (a + t.length)).2, 0, 0) := fun a ac => by
          by_cases hx : x.kind = 4
          · obtain ⟨w1, w2, w3, w4, w5⟩ := written_text hw hx
            have hh : (t ++ (putP l (decide (x.kind = 4)) (a + t.length)).1).head? ≠ some 60 := by
              cases t with
              | nil => exact absurd rfl w1
              | cons b t => simp only [List.cons_append, List.head?_cons, ne_eq, Option.some.injEq]; intro e; exact w2 (by simp [e])
            have htw : (t ++ (putP l (decide (x.kind = 4)) (a + t.length)).1).takeWhile (· != 60) = t := by
              rw [text_app, takeWhile_all_ w2]
              rw [decide_eq_true hx]
              exact putP_head l _ hl
            rw [tokS_text (by simp [w1]) hh, htw, w3, if_neg (by simp), List.drop_left, tokS_putP l _ _ _ hl, List.append_assoc]
            congr 1
            obtain ⟨k, n, as', tx, ax⟩ := x
            simp only at hx w4 w5 ⊢
            subst hx w4 w5
            rfl
          · obtain ⟨w1, w2, w3, w4⟩ := written_tag hw hx (h p (by simp)) (putP l (decide (x.kind = 4)) (a + t.length)).1
            rw [tokS_tag w1 w2, w3]
            simp only
            rw [List.drop_left, tokS_putP l _ _ _ hl, List.append_assoc]
            congr 1
            obtain ⟨k, n, as', tx, ax⟩ := x
            simp only at w4 ⊢
            subst w4
            rfl
        cases hr : p.remark with
        | false => simpa using key at_ acc
        | true =>
          simp only [if_true]
          rw [tokS_remark (by rw [rem_put]; decide), rem_put, show (17 : Nat) = remB.length from rfl, List.drop_left]
          exact key _ _
theorem written_isU {p : PartM} {t : List UInt8} {x : Tok} (h : writtenP p = some (t, x)) : IsU t := by
  unfold writtenP at h
  split at h
  · split at h
    · rename_i hv
      simp only [Option.some.injEq, Prod.mk.injEq] at h
      obtain ⟨rfl, rfl⟩ := h
      exact encL_isU false ((validR_iff _).1 hv.1)
    · cases h
  · split at h
    · cases h
    · rename_i hn
      have hn : (splitN p.name).isSome = true := by cases hs : (splitN p.name).isSome with | true => rfl | false => exact absurd hs hn
      obtain ⟨r, hr⟩ := Option.isSome_iff_exists.1 hn
      have hU := isU_ascii (fun b hb => isL_ascii (splitN_bytes hr b hb))
      split at h
      · simp only [Option.some.injEq, Prod.mk.injEq] at h
        obtain ⟨rfl, rfl⟩ := h
        exact isU_cons (by decide) (by decide) (isU_cons (by decide) (by decide) (hU.append (isU_cons (by decide) (by decide) .nil)))
      · split at h
        · rename_i ha
          simp only [Option.some.injEq, Prod.mk.injEq] at h
          obtain ⟨rfl, rfl⟩ := h
          have hA : IsU (putA p.attrs) := by
            revert ha
            generalize p.attrs = l
            intro ha
            induction l with
            | nil => exact .nil
            | cons q l ih =>
              rw [putA_cons]
              obtain ⟨h1, h2⟩ := ha q (by simp)
              obtain ⟨r, hr⟩ := Option.isSome_iff_exists.1 h1
              refine IsU.append (isU_cons (by decide) (by decide) ?_) (ih (fun p hp => ha p (by simp [hp])))
              exact (isU_ascii (fun b hb => isL_ascii (splitN_bytes hr b hb))).append (isU_cons (by decide) (by decide) (isU_cons (by decide) (by decide)
                ((encL_isU true ((validR_iff _).1 h2)).append (isU_cons (by decide) (by decide) .nil))))
          refine isU_cons (by decide) (by decide) (hU.append (hA.append ?_))
          unfold endB
          split
          · exact isU_cons (by decide) (by decide) (isU_cons (by decide) (by decide) .nil)
          · exact isU_cons (by decide) (by decide) .nil
        · cases h
theorem putP_isU : ∀ (l : List PartM) (text : Bool) (at_ : Nat), IsU (putP l text at_).1
  | [], _, _ => .nil
  | p :: l, text, at_ => by
    rw [putP]
    cases hw : writtenP p with
    | none => exact putP_isU l text at_
    | some y =>
      obtain ⟨t, x⟩ := y
      simp only
      split
      · exact putP_isU l text at_
      · simp only
        refine IsU.append ?_ ((written_isU hw).append (putP_isU l _ _))
        split
        · exact isU_ascii (by decide)
        · exact .nil
theorem esc_len6 (attr : Bool) (b : UInt8) : (escL attr b).length ≤ 6 := by
  unfold escL
  repeat' split
  all_goals simp
theorem enc_len6 (attr : Bool) (l : List UInt8) : (encL attr l).length ≤ 6 * l.length := by
  induction l with
  | nil => simp [encL]
  | cons b l ih =>
    unfold encL at ih ⊢
    rw [List.flatMap_cons, List.length_append, List.length_cons]
    have := esc_len6 attr b
    omega
theorem putA_len : ∀ {l : List (List UInt8 × List UInt8)}, (∀ p ∈ l, attrOk p ∧ p.2.length ≤ 40) → (putA l).length ≤ 308 * l.length
  | [], _ => by simp [putA]
  | p :: l, h => by
    rw [putA_cons]
    obtain ⟨⟨h1, _⟩, h2⟩ := h p (by simp)
    obtain ⟨r, hr⟩ := Option.isSome_iff_exists.1 h1
    have h3 := (splitN_cases hr).1
    have h4 := enc_len6 true p.2
    have h5 := putA_len (l := l) (fun q hq => h q (by simp [hq]))
    simp only [List.length_append, List.length_cons, List.length_nil]
    omega
/-- what the statement asks of a part -/
def okPart (p : PartM) : Prop := p.text.length ≤ 40 ∧ p.attrs.length ≤ 5 ∧ ∀ q ∈ p.attrs, q.2.length ≤ 40
theorem written_len {p : PartM} {t : List UInt8} {x : Tok} (h : writtenP p = some (t, x)) (hp : okPart p) : t.length ≤ 1620 := by
  obtain ⟨p1, p2, p3⟩ := hp
  unfold writtenP at h
  split at h
  · split at h
    · simp only [Option.some.injEq, Prod.mk.injEq] at h
      obtain ⟨rfl, rfl⟩ := h
      have := enc_len6 false p.text
      omega
    · cases h
  · split at h
    · cases h
    · rename_i hn
      have hn : (splitN p.name).isSome = true := by cases hs : (splitN p.name).isSome with | true => rfl | false => exact absurd hs hn
      obtain ⟨r, hr⟩ := Option.isSome_iff_exists.1 hn
      have h64 := (splitN_cases hr).1
      split at h
      · simp only [Option.some.injEq, Prod.mk.injEq] at h
        obtain ⟨rfl, rfl⟩ := h
        simp only [List.length_append, List.length_cons, List.length_nil]
        omega
      · split at h
        · rename_i ha
          simp only [Option.some.injEq, Prod.mk.injEq] at h
          obtain ⟨rfl, rfl⟩ := h
          have := putA_len (l := p.attrs) (fun q hq => ⟨ha q hq, p3 q hq⟩)
          have he : (endB (kindM p.kind)).length ≤ 2 := by unfold endB; split <;> simp
          simp only [List.length_append, List.length_cons]
          omega
        · cases h
theorem putP_len : ∀ (l : List PartM) (text : Bool) (at_ : Nat), (∀ p ∈ l, okPart p) → (putP l text at_).1.length ≤ 1640 * l.length
  | [], _, _, _ => by simp [putP]
  | p :: l, text, at_, h => by
    have hl : ∀ q ∈ l, okPart q := fun q hq => h q (by simp [hq])
    rw [putP]
    cases hw : writtenP p with
    | none => have := putP_len l text at_ hl; simp only [List.length_cons]; omega
    | some y =>
      obtain ⟨t, x⟩ := y
      simp only
      split
      · have := putP_len l text at_ hl; simp only [List.length_cons]; omega
      · have h1 := written_len hw (h p (by simp))
        have h2 := putP_len l (decide (x.kind = 4)) (at_ + (if p.remark = true then remB else []).length + t.length) hl
        have h3 : (if p.remark = true then remB else []).length ≤ 17 := by split <;> simp [remB]
        simp only [List.length_append, List.length_cons]
        omega
theorem tokR_putP {l : List PartM} (h : ∀ p ∈ l, okPart p) (h20 : l.length ≤ 20) : tokR (putP l false 0).1 = ((putP l false 0).2, 0, 0) := by
  have hlen := putP_len l false 0 h
  unfold tokR
  rw [if_neg (by omega), if_neg (by rw [validR_ok (putP_isU l false 0)]; decide), tokS_putP l false 0 [] (fun p hp => by have := (h p hp).2.1; omega), List.nil_append]
end Go.Proofs.YtalbehjjgdedcaaGreatDoor
