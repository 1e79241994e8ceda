/- Tokens in plain Lean: blanks, attributes, tags, remarks, tokens of a text (as suffixes and what is taken of them). -/
import Derived.Test.YtalbehjjgdedcaaGreatDoorNamP
import Derived.Test.YtalbehjjgdedcaaGreatDoorEntQ
namespace Go.Proofs.YtalbehjjgdedcaaGreatDoor

def blankB (b : UInt8) : Bool := b == 32 || b == 9 || b == 10 || b == 13
/-- how many blanks stand first -/
def nB (l : List UInt8) : Nat := (l.takeWhile blankB).length
theorem nB_le (l : List UInt8) : nB l ≤ l.length := takeWhile_le _ _
theorem drop_nB : ∀ l : List UInt8, l.drop (nB l) = l.dropWhile blankB
  | [] => rfl
  | b :: t => by
    unfold nB
    rw [List.takeWhile_cons, List.dropWhile_cons]
    split
    · rw [List.length_cons, List.drop_succ_cons]; exact drop_nB t
    · rfl

/-- an attribute that is not read yet: its name, its value, the value's place -/
structure RawA where
  name : List UInt8
  value : List UInt8
  off : Nat

/-- where an attribute's mark would stand: name, blanks, '=', blanks -/
def markAt (l : List UInt8) : Nat := beginN l + nB (l.drop (beginN l)) + 1 + nB (l.drop (beginN l + nB (l.drop (beginN l)) + 1))
/-- an attribute at the beginning, and how many bytes it has -/
def attrP (l : List UInt8) : Option (RawA × Nat) :=
  if beginN l = 0 ∨ l[beginN l + nB (l.drop (beginN l))]? ≠ some 61 then none
  else match l.drop (markAt l) with
    | [] => none
    | q :: r =>
      if (q = 34 ∨ q = 39) ∧ q ∈ r ∧ (60 : UInt8) ∉ r.takeWhile (· != q) then
        some (⟨l.take (beginN l), r.takeWhile (· != q), markAt l + 1⟩, markAt l + 1 + (r.takeWhile (· != q)).length + 1)
      else none
theorem attrP_len {l : List UInt8} {a : RawA} {k : Nat} (h : attrP l = some (a, k)) : 0 < k ∧ k ≤ l.length := by
  unfold attrP at h
  split at h
  · cases h
  · split at h
    · cases h
    · rename_i q r hd
      split at h
      · rename_i hc
        simp only [Option.some.injEq, Prod.mk.injEq] at h
        obtain ⟨-, rfl⟩ := h
        refine ⟨by omega, ?_⟩
        have h1 : (l.drop (markAt l)).length = r.length + 1 := by rw [hd]; rfl
        rw [List.length_drop] at h1
        have h2 : (r.takeWhile (· != q)).length < r.length := by
          have : ∀ r : List UInt8, q ∈ r → (r.takeWhile (· != q)).length < r.length := by
            intro r
            induction r with
            | nil => intro h; cases h
            | cons b t ih =>
              intro hm
              rw [List.takeWhile_cons]
              split
              · rename_i hb
                have hb : b ≠ q := by simpa using hb
                have := ih (by
                  rcases List.mem_cons.1 hm with h | h
                  · exact absurd h.symm hb
                  · exact h)
                simp only [List.length_cons]
                omega
              · simp
          exact this r hc.2.1
        omega
      · cases h

/-- a tag's attributes and its end, from behind its name on: kind, attributes, how many bytes; 'at' is where the list stands in the tag -/
def attrsP : Nat → List UInt8 → Nat → List RawA → Option (Nat × List RawA × Nat)
  | 0, _, _, _ => none
  | f + 1, l, at_, acc =>
    if l[nB l]? = some 62 then some (1, acc, at_ + nB l + 1)
    else if l[nB l]? = some 47 ∧ l[nB l + 1]? = some 62 then some (3, acc, at_ + nB l + 2)
    else if nB l = 0 ∨ l.length ≤ nB l then none
    else match attrP (l.drop (nB l)) with
      | none => none
      | some (a, k) => attrsP f (l.drop (nB l + k)) (at_ + nB l + k) (acc ++ [⟨a.name, a.value, at_ + nB l + a.off⟩])
/-- a tag at the beginning (a '<' stands there): kind, name, attributes (places from the tag on), how many bytes -/
def tagP (l : List UInt8) : Option (Nat × List UInt8 × List RawA × Nat) :=
  if l[1]? = some 47 then
    (if beginN (l.drop 2) = 0 ∨ l[2 + beginN (l.drop 2) + nB (l.drop (2 + beginN (l.drop 2)))]? ≠ some 62 then none
     else some (2, (l.drop 2).take (beginN (l.drop 2)), [], 2 + beginN (l.drop 2) + nB (l.drop (2 + beginN (l.drop 2))) + 1))
  else if beginN (l.drop 1) = 0 then none
  else match attrsP l.length (l.drop (1 + beginN (l.drop 1))) (1 + beginN (l.drop 1)) [] with
    | none => none
    | some (kind, ats, k) => some (kind, (l.drop 1).take (beginN (l.drop 1)), ats, k)

/-- where a text stands first -/
def findP (t : List UInt8) : List UInt8 → Option Nat
  | [] => none
  | b :: l => if t.isPrefixOf (b :: l) = true then some 0 else (findP t l).map (· + 1)
/-- how many bytes a remark at the beginning has; 0: there is none -/
def remarkP (l : List UInt8) : Nat :=
  if [60, 33, 45, 45].isPrefixOf l = true then (match findP [45, 45, 62] (l.drop 4) with | some i => 4 + i + 3 | none => 0)
  else if [60, 63].isPrefixOf l = true then (match findP [63, 62] (l.drop 2) with | some i => 2 + i + 2 | none => 0)
  else 0

/-- a token -/
structure Tok where
  kind : Nat
  name : List UInt8
  attrs : List (List UInt8 × List UInt8)
  text : List UInt8
  at_ : Nat
/-- a tag's values, read; else the place and the error -/
def readP : List RawA → List (List UInt8 × List UInt8) ⊕ (Nat × Int)
  | [] => .inl []
  | a :: l => if (decodeR a.value).2.2 ≠ 0 then .inr (a.off + (decodeR a.value).2.1, (decodeR a.value).2.2)
    else match readP l with
      | .inr x => .inr x
      | .inl r => .inl ((a.name, (decodeR a.value).1) :: r)
/-- the tokens of a text, from a place on -/
def tokensP : Nat → List UInt8 → Nat → List Tok → List Tok × Nat × Int
  | 0, _, _, acc => (acc, 0, 0)
  | f + 1, l, at_, acc =>
    if l = [] then (acc, 0, 0)
    else if l.head? ≠ some 60 then
      let v := l.takeWhile (· != 60)
      if (decodeR v).2.2 ≠ 0 then ([], at_ + (decodeR v).2.1, (decodeR v).2.2)
      else tokensP f (l.drop v.length) (at_ + v.length) (acc ++ [⟨4, [], [], (decodeR v).1, at_⟩])
    else if 0 < remarkP l then tokensP f (l.drop (remarkP l)) (at_ + remarkP l) acc
    else match tagP l with
      | none => ([], at_, 40)
      | some (kind, name, ats, k) => match readP ats with
        | .inr (p, e) => ([], at_ + p, e)
        | .inl vs => if 32 < vs.length then ([], at_, 3) else tokensP f (l.drop k) (at_ + k) (acc ++ [⟨kind, name, vs, [], at_⟩])
end Go.Proofs.YtalbehjjgdedcaaGreatDoor
