/- Trees in plain Lean: attributes in order; the tree that tokens make, token by token, and element by element. -/
import Derived.Test.YtncecbgpkoihpaaGreatDoorTokR
namespace Go.Proofs.YtncecbgpkoihpaaGreatDoor
abbrev z07 := ByteArray × ByteArray
def nmA (a : z07) : List UInt8 := a.1.data.toList
theorem zek (a : UInt8) : ¬ a < a := by rw [UInt8.lt_iff_toNat_lt]; omega
theorem z3e : ∀ l : List UInt8, ¬ l < l
 | [] => by simp
 | a :: l => by
   rw [List.cons_lt_cons_iff]
   rintro (h | h)
   · exact zek a h
   · exact z3e l h.2
theorem z3n : ∀ {x y z : List UInt8}, x < y → y < z → x < z
 | [], [], _, h, _ => absurd h (by simp)
 | [], _ :: _, [], _, h => absurd h (by simp)
 | [], _ :: _, _ :: _, _, _ => by simp
 | _ :: _, [], _, h, _ => absurd h (by simp)
 | _ :: _, _ :: _, [], _, h => absurd h (by simp)
 | a :: x, b :: y, c :: z, h, g => by
   rw [List.cons_lt_cons_iff] at *
   rcases h with h | ⟨rfl, h⟩
   · rcases g with g | ⟨rfl, g⟩
     · exact .inl (by rw [UInt8.lt_iff_toNat_lt] at *; omega)
     · exact .inl h
   · rcases g with g | ⟨rfl, g⟩
     · exact .inl g
     · exact .inr ⟨rfl, z3n h g⟩
theorem zbg : ∀ (x y : List UInt8), x < y ∨ x = y ∨ y < x
 | [], [] => .inr (.inl rfl)
 | [], _ :: _ => .inl (by simp)
 | _ :: _, [] => .inr (.inr (by simp))
 | a :: x, b :: y => by
   rw [List.cons_lt_cons_iff, List.cons_lt_cons_iff]
   rcases Nat.lt_trichotomy a.toNat b.toNat with h | h | h
   · exact .inl (.inl (UInt8.lt_iff_toNat_lt.2 h))
   · have hab : a = b := UInt8.toNat_inj.1 h
     subst hab
     rcases zbg x y with h | rfl | h
     · exact .inl (.inr ⟨rfl, h⟩)
     · exact .inr (.inl rfl)
     · exact .inr (.inr (.inr ⟨rfl, h⟩))
   · exact .inr (.inr (.inl (UInt8.lt_iff_toNat_lt.2 h)))
def ltA (a b : z07) : Prop := nmA a < nmA b
def insA (x : z07) : List z07 → List z07
 | [] => [x]
 | y :: l => if nmA y < nmA x then y :: insA x l else x :: y :: l
def z5o : List z07 → List z07
 | [] => []
 | x :: l => insA x (z5o l)
def dupA (l : List z07) : Prop := ¬ (l.map nmA).Nodup
instance (l : List z07) : Decidable (dupA l) := inferInstanceAs (Decidable (¬ _))
theorem za6 (x : z07) : ∀ l, (insA x l).Perm (x :: l)
 | [] => .refl _
 | y :: l => by
   rw [insA]
   split
   · exact ((za6 x l).cons y).trans (.swap x y l)
   · exact .refl _
theorem z49 : ∀ l, (z5o l).Perm l
 | [] => .refl _
 | x :: l => (za6 x (z5o l)).trans ((z49 l).cons x)
theorem za7 (x : z07) : ∀ l : List z07, l.Pairwise ltA → (∀ y ∈ l, nmA y ≠ nmA x) → (insA x l).Pairwise ltA
 | [], _, _ => by simp [insA]
 | y :: l, h, hn => by
   rw [List.pairwise_cons] at h
   rw [insA]
   split
   · rename_i hlt
     rw [List.pairwise_cons]
     refine ⟨fun z hz => ?_, za7 x l h.2 (fun z hz => hn z (by simp [hz]))⟩
     rcases List.mem_cons.1 ((za6 x l).mem_iff.1 hz) with rfl | hz
     · exact hlt
     · exact h.1 z hz
   · rename_i hlt
     have hxy : ltA x y := by
      rcases zbg (nmA x) (nmA y) with h1 | h1 | h1
      · exact h1
      · exact absurd h1.symm (hn y (by simp))
      · exact absurd h1 hlt
     rw [List.pairwise_cons]
     refine ⟨fun z hz => ?_, List.pairwise_cons.2 h⟩
     rcases List.mem_cons.1 hz with rfl | hz
     · exact hxy
     · exact z3n hxy (h.1 z hz)
theorem z5p : ∀ {l : List z07}, (l.map nmA).Nodup → (z5o l).Pairwise ltA
 | [], _ => .nil
 | x :: l, h => by
   rw [List.map_cons, List.nodup_cons] at h
   refine za7 x _ (z5p h.2) fun y hy e => h.1 ?_
   rw [← e]
   exact List.mem_map_of_mem ((z49 l).mem_iff.1 hy)
theorem zel {l : List z07} (h : l.Pairwise ltA) : (l.map nmA).Nodup := by
 unfold List.Nodup
 rw [List.pairwise_map]
 refine h.imp ?_
 intro a b hab e
 unfold ltA at hab
 rw [e] at hab
 exact z3e _ hab
theorem z7h : ∀ {a b : List z07}, a.Pairwise ltA → b.Pairwise ltA → a.Perm b → a = b
 | [], b, _, _, h => (List.nil_perm.1 h).symm ▸ rfl
 | x :: a, [], _, _, h => absurd h.length_eq (by simp)
 | x :: a, y :: b, ha, hb, h => by
   have hxy : x = y := by
    rw [List.pairwise_cons] at ha hb
    rcases List.mem_cons.1 (h.mem_iff.1 (List.mem_cons_self)) with e | h1
    · exact e
    rcases List.mem_cons.1 (h.mem_iff.2 (List.mem_cons_self)) with e | h2
    · exact e.symm
    exact absurd (z3n (hb.1 x h1) (ha.1 y h2)) (z3e _)
   subst hxy
   rw [z7h (List.pairwise_cons.1 ha).2 (List.pairwise_cons.1 hb).2 ((List.perm_cons x).1 h)]
theorem zho {l m : List z07} (hm : m.Pairwise ltA) (hp : m.Perm l) : m = z5o l ∧ ¬ dupA l := by
 have hn : (l.map nmA).Nodup := (hp.map nmA).nodup_iff.1 (zel hm)
 exact ⟨z7h hm (z5p hn) (hp.trans (z49 l).symm), fun h => h hn⟩
theorem zt1 {l m : List z07} (hp : m.Perm l) (h : ¬ (m.map nmA).Nodup) : dupA l := fun hn => h ((hp.map nmA).nodup_iff.2 hn)
structure NodeM where
 name : ByteArray
 attrs : List z07
 text : ByteArray
 parent : Int
 first : Int
 next : Int
 at_ : Int
def bs (l : List UInt8) : ByteArray := ⟨l.toArray⟩
def z00 (x : Tok) : List z07 := x.attrs.map fun p => (bs p.1, bs p.2)
def z3f (s : ByteArray) : Bool := s.data.toList.all z1a
def fstN (n : Int) (x : NodeM) : NodeM := { x with first := n }
def nxtN (n : Int) (x : NodeM) : NodeM := { x with next := n }
def txtN (t : ByteArray) (x : NodeM) : NodeM := { x with text := t }
def newN (x : Tok) (parent : Int) : NodeM := ⟨bs x.name, z5o (z00 x), ⟨#[]⟩, parent, -1, -1, x.at_⟩
structure BldM where
 nodes : List NodeM
 texts : List ByteArray
 lasts : List Int
 inn : Int
 deep : Nat
def z1k (l : List NodeM) (p k : Int) (n : Nat) : List NodeM := if k = -1 then l.modify p.toNat (fstN n) else l.modify k.toNat (nxtN n)
def z1b (b : BldM) : Int := b.lasts[b.inn.toNat]?.getD (-1)
def z0c (b : BldM) (x : Tok) : BldM ⊕ Int :=
 if (b.inn = -1 ∧ b.nodes ≠ []) ∨ dupA (z00 x) then .inr 50
 else if b.nodes.length = 4096 ∨ b.deep = 64 then .inr 3
 else .inl {
  nodes := if b.inn = -1 then b.nodes ++ [newN x b.inn] else z1k (b.nodes ++ [newN x b.inn]) b.inn (z1b b) b.nodes.length
  texts := b.texts ++ [⟨#[]⟩]
  lasts := if b.inn = -1 then b.lasts ++ [-1] else (b.lasts ++ [-1]).set b.inn.toNat b.nodes.length
  inn := b.nodes.length
  deep := b.deep + 1 }
def z0m (b : BldM) : ByteArray := b.texts[b.inn.toNat]?.getD ⟨#[]⟩
def z28 (b : BldM) : NodeM := b.nodes[b.inn.toNat]?.getD ⟨⟨#[]⟩, [], ⟨#[]⟩, -1, -1, -1, 0⟩
def z2q (b : BldM) : BldM := {
 nodes := if z3f (z0m b) = true then b.nodes else b.nodes.modify b.inn.toNat (txtN (z0m b))
 texts := b.texts
 lasts := b.lasts
 inn := (z28 b).parent
 deep := b.deep - 1 }
def z14 (b : BldM) (x : Tok) : BldM ⊕ Int := if b.inn = -1 ∨ (z28 b).name ≠ bs x.name then .inr 50 else .inl (z2q b)
def z3g (b : BldM) (x : Tok) : BldM ⊕ Int := match z0c b x with
 | .inl b' => .inl (z2q b')
 | .inr e => .inr e
def z5a (b : BldM) (x : Tok) : BldM ⊕ Int :=
 if b.inn ≠ -1 then .inl { b with texts := b.texts.set b.inn.toNat (z0m b ++ bs x.text) }
 else if z3f (bs x.text) = true then .inl b else .inr 50
def z0y (b : BldM) (x : Tok) : BldM ⊕ Int :=
 if x.kind = 1 then z0c b x else if x.kind = 2 then z14 b x else if x.kind = 3 then z3g b x else z5a b x
def runM (b : BldM) : List Tok → BldM ⊕ (Int × Int)
 | [] => .inl b
 | x :: l => match z0y b x with
   | .inl b' => runM b' l
   | .inr e => .inr (x.at_, e)
def initM : BldM := ⟨[], [], [], -1, 0⟩
def finM (size : Nat) : BldM ⊕ (Int × Int) → List NodeM × Int × Int
 | .inr (p, e) => ([], p, e)
 | .inl b => if b.inn ≠ -1 ∨ b.nodes = [] then ([], size, 50) else (b.nodes, 0, 0)
def z1l (s : List UInt8) : List NodeM × Int × Int :=
 if (tokR s).2.2 ≠ 0 then ([], (tokR s).2.1, (tokR s).2.2) else finM s.length (runM initM (tokR s).1)
end Go.Proofs.YtncecbgpkoihpaaGreatDoor
namespace Go.Proofs.YtncecbgpkoihpaaGreatDoor
abbrev ResT := (List NodeM × List Tok) ⊕ (Int × Int)
def z3u (acc : List NodeM) (n : Nat) (last : Int) (m : Nat) : List NodeM := if last = -1 then acc.modify 0 (fstN m) else acc.modify (last.toNat - n) (nxtN m)
def z8m (acc : List NodeM) (text : ByteArray) : List NodeM := if z3f text = true then acc else acc.modify 0 (txtN text)
def z4a (E : List Tok → Nat → ResT) (x : Tok) (n size : Nat) : Nat → List Tok → List NodeM → ByteArray → Int → ResT
 | 0, _, _, _, _ => .inr (0, 0)
 | _ + 1, [], _, _, _ => .inr (size, 50)
 | g + 1, y :: rest, acc, text, last =>
   if y.kind = 2 then (if bs y.name ≠ bs x.name then .inr (y.at_, 50) else .inl (z8m acc text, rest))
   else if y.kind = 4 then z4a E x n size g rest acc (text ++ bs y.text) last
   else match E (y :: rest) (n + acc.length) with
    | .inr e => .inr e
    | .inl (sub, rest') => z4a E x n size g rest' (z3u acc n last (n + acc.length) ++ sub) text ((n + acc.length : Nat) : Int)
def z4b (size : Nat) : Nat → List Tok → Int → Nat → Nat → ResT
 | 0, _, _, _, _ => .inr (0, 0)
 | _ + 1, [], _, _, _ => .inr (0, 0)
 | f + 1, x :: rest, parent, deep, n =>
   if dupA (z00 x) then .inr (x.at_, 50)
   else if n = 4096 ∨ 64 < deep then .inr (x.at_, 3)
   else if x.kind = 3 then .inl ([newN x parent], rest)
   else z4a (fun l m => z4b size f l n (deep + 1) m) x n size (rest.length + 1) rest [newN x parent] ⟨#[]⟩ (-1)
def z86 : List Tok → List Tok
 | [] => []
 | x :: l => if x.kind = 4 ∧ z3f (bs x.text) = true then z86 l else x :: l
def refM (size : Nat) (toks : List Tok) : List NodeM × Int × Int :=
 match z86 toks with
 | [] => ([], size, 50)
 | x :: l => if x.kind = 2 ∨ x.kind = 4 then ([], x.at_, 50)
   else match z4b size ((x :: l).length + 1) (x :: l) (-1) 1 0 with
    | .inr e => ([], e.1, e.2)
    | .inl (sub, rest) => match z86 rest with
      | [] => (sub, 0, 0)
      | y :: _ => ([], y.at_, 50)
theorem z4c {α : Type} (f : α → α) : ∀ (a b : List α) (i : Nat), (a ++ b).modify (a.length + i) f = a ++ b.modify i f
 | [], b, i => by simp
 | x :: a, b, i => by
   rw [List.length_cons, List.cons_append, show a.length + 1 + i = (a.length + i) + 1 from by omega, List.modify_succ_cons, z4c f a b i, List.cons_append]
theorem za8 {α : Type} (f : α → α) : ∀ (a b : List α) (i : Nat), i < a.length → (a ++ b).modify i f = a.modify i f ++ b
 | [], b, i, h => absurd h (by simp)
 | x :: a, b, 0, h => by simp
 | x :: a, b, i + 1, h => by
   rw [List.cons_append, List.modify_succ_cons, List.modify_succ_cons, za8 f a b i (by simpa using h), List.cons_append]
theorem zcj {α : Type} (v : α) : ∀ (a b : List α) (i : Nat), (a ++ b).set (a.length + i) v = a ++ b.set i v
 | [], b, i => by simp
 | x :: a, b, i => by
   rw [List.length_cons, List.cons_append, show a.length + 1 + i = (a.length + i) + 1 from by omega, List.set_cons_succ, zcj v a b i, List.cons_append]
theorem z96 {α : Type} (a b : List α) : (a ++ b)[a.length]? = b[0]? := by rw [List.getElem?_append_right (Nat.le_refl _), Nat.sub_self]
theorem zmf {N acc : List NodeM} {last : Int} {m : Nat} (h : last = -1 ∨ ((N.length : Int) ≤ last ∧ last < N.length + acc.length)) :
 z1k (N ++ acc) N.length last m = N ++ z3u acc N.length last m := by
 unfold z1k z3u
 by_cases hl : last = -1
 · rw [if_pos hl, if_pos hl, Int.toNat_natCast]
   exact z4c _ N acc 0
 · rw [if_neg hl, if_neg hl]
   have h2 : last.toNat = N.length + (last.toNat - N.length) := by omega
   rw [h2, z4c, show N.length + (last.toNat - N.length) - N.length = last.toNat - N.length from by omega]
theorem zem (l : List NodeM) (p k : Int) (n : Nat) : (z1k l p k n).length = l.length := by unfold z1k; split <;> simp
theorem z7i (l : List NodeM) (p : Nat) (k : Int) (n : Nat) : (z3u l p k n).length = l.length := by unfold z3u; split <;> simp
theorem z87 (l : List NodeM) (t : ByteArray) : (z8m l t).length = l.length := by unfold z8m; split <;> simp
theorem zje {N : List NodeM} {x : NodeM} {p k : Int} {n : Nat} (hp : p.toNat < N.length) (hk : k = -1 ∨ k.toNat < N.length) : z1k (N ++ [x]) p k n = z1k N p k n ++ [x] := by
 unfold z1k
 split
 · exact za8 _ _ _ _ hp
 · rename_i h
   exact za8 _ _ _ _ (hk.resolve_left h)
theorem z57 {f : NodeM → NodeM} (hf : ∀ x, (f x).name = x.name ∧ (f x).parent = x.parent) : ∀ (l : List NodeM) (i : Nat), ((l.modify i f)[0]?.map fun x => (x.name, x.parent)) = l[0]?.map fun x => (x.name, x.parent)
 | [], _ => by simp
 | x :: l, 0 => by simp [hf]
 | x :: l, i + 1 => by simp
theorem zjf (l : List NodeM) (n : Nat) (k : Int) (m : Nat) : ((z3u l n k m)[0]?.map fun x => (x.name, x.parent)) = l[0]?.map fun x => (x.name, x.parent) := by
 unfold z3u
 split
 · exact z57 (f := fstN m) (fun x => ⟨rfl, rfl⟩) _ _
 · exact z57 (f := nxtN m) (fun x => ⟨rfl, rfl⟩) _ _
structure WfB (b : BldM) : Prop where
 d : b.deep ≤ 64
 t : b.texts.length = b.nodes.length
 l : b.lasts.length = b.nodes.length
 i : (b.inn = -1 ∧ b.nodes = []) ∨ (b.inn ≠ -1 ∧ b.inn.toNat < b.nodes.length ∧ (z1b b = -1 ∨ (z1b b).toNat < b.nodes.length))
def z7j (b : BldM) : List NodeM := if b.inn = -1 then b.nodes else z1k b.nodes b.inn (z1b b) b.nodes.length
def z7k (b : BldM) : List Int := if b.inn = -1 then b.lasts else b.lasts.set b.inn.toNat b.nodes.length
theorem z5q (b : BldM) : (z7j b).length = b.nodes.length := by unfold z7j; split; rfl; exact zem _ _ _ _
theorem zmg (b : BldM) : (z7k b).length = b.lasts.length := by unfold z7k; split <;> simp
theorem zmh {b : BldM} (h : WfB b) {x : Tok} (hd : ¬ dupA (z00 x)) (hl : ¬ (b.nodes.length = 4096 ∨ b.deep = 64)) :
 z0c b x = .inl ⟨z7j b ++ [newN x b.inn], b.texts ++ [⟨#[]⟩], z7k b ++ [-1], b.nodes.length, b.deep + 1⟩ := by
 unfold z0c
 rw [if_neg (fun h1 => by
  rcases h1 with h1 | h1
  · rcases h.i with h2 | h2
    · exact h1.2 h2.2
    · exact h2.1 h1.1
  · exact hd h1), if_neg hl]
 unfold z7j z7k
 rcases h.i with h2 | ⟨h2, h3, h4⟩
 · rw [if_pos h2.1, if_pos h2.1, if_pos h2.1, if_pos h2.1]
 · rw [if_neg h2, if_neg h2, if_neg h2, if_neg h2, zje h3 h4, List.set_append_left _ _ (by rw [h.l]; exact h3)]
def KindOk (l : List Tok) : Prop := ∀ x ∈ l, x.kind = 1 ∨ x.kind = 2 ∨ x.kind = 3 ∨ x.kind = 4
def inB (N acc : List NodeM) (T0 T : List ByteArray) (L0 L : List Int) (text : ByteArray) (last : Int) (deep : Nat) : BldM := ⟨N ++ acc, T0 ++ text :: T, L0 ++ last :: L, N.length, deep⟩
theorem zhp {N acc : List NodeM} {T0 T : List ByteArray} {L0 L : List Int} {text : ByteArray} {last : Int} {deep : Nat} (h : T0.length = N.length) : z0m (inB N acc T0 T L0 L text last deep) = text := by
 unfold z0m inB
 simp only [Int.toNat_natCast]
 rw [← h, z96]
 rfl
theorem zhq {N acc : List NodeM} {T0 T : List ByteArray} {L0 L : List Int} {text : ByteArray} {last : Int} {deep : Nat} (h : L0.length = N.length) : z1b (inB N acc T0 T L0 L text last deep) = last := by
 unfold z1b inB
 simp only [Int.toNat_natCast]
 rw [← h, z96]
 rfl
theorem zhr {N acc : List NodeM} {T0 T : List ByteArray} {L0 L : List Int} {text : ByteArray} {last : Int} {deep : Nat} (h : T0.length = N.length) {nm : ByteArray} {pa : Int} (ha : acc[0]?.map (fun x => (x.name, x.parent)) = some (nm, pa)) :
 z2q (inB N acc T0 T L0 L text last deep) = ⟨N ++ z8m acc text, T0 ++ text :: T, L0 ++ last :: L, pa, deep - 1⟩ ∧ (z28 (inB N acc T0 T L0 L text last deep)).name = nm := by
 have hn : (z28 (inB N acc T0 T L0 L text last deep)).name = nm ∧ (z28 (inB N acc T0 T L0 L text last deep)).parent = pa := by
  unfold z28 inB
  simp only [Int.toNat_natCast]
  rw [z96]
  cases hc : acc[0]? with
  | none => rw [hc] at ha; cases ha
  | some y =>
    rw [hc] at ha
    simp only [Option.map_some, Option.some.injEq, Prod.mk.injEq] at ha
    exact ha
 refine ⟨?_, hn.1⟩
 unfold z2q
 rw [zhp h, hn.2]
 unfold z8m
 refine (BldM.mk.injEq ..).mpr ⟨?_, rfl, rfl, rfl, rfl⟩
 by_cases hb : z3f text = true
 · rw [if_pos hb, if_pos hb]; rfl
 · rw [if_neg hb, if_neg hb]
   show (N ++ acc).modify ((N.length : Int).toNat) (txtN text) = _
   rw [Int.toNat_natCast]
   exact z4c _ N acc 0
def zqa (size : Nat) (b : BldM) (l : List Tok) (r : ResT) : Prop :=
 match r with
 | .inr e => finM size (runM b l) = ([], e.1, e.2)
 | .inl (sub, rest) => ∃ T L, T.length = sub.length ∧ L.length = sub.length ∧ 0 < sub.length ∧ rest.length < l.length ∧ KindOk rest ∧ runM b l = runM ⟨z7j b ++ sub, b.texts ++ T, z7k b ++ L, b.inn, b.deep⟩ rest
def zt2 (size : Nat) (N : List NodeM) (T0 : List ByteArray) (L0 : List Int) (pa : Int) (deep : Nat) (b : BldM) (l : List Tok) (r : ResT) : Prop :=
 match r with
 | .inr e => finM size (runM b l) = ([], e.1, e.2)
 | .inl (sub, rest) => ∃ T L, T.length = sub.length ∧ L.length = sub.length ∧ 0 < sub.length ∧ rest.length < l.length ∧ KindOk rest ∧ runM b l = runM ⟨N ++ sub, T0 ++ T, L0 ++ L, pa, deep⟩ rest
theorem KindOk.tail {x : Tok} {l : List Tok} (h : KindOk (x :: l)) : KindOk l := fun y hy => h y (List.mem_cons_of_mem _ hy)
theorem z1y {b b' : BldM} {x : Tok} {l : List Tok} (h : z0y b x = .inl b') : runM b (x :: l) = runM b' l := by rw [runM, h]
theorem z4y {b : BldM} {x : Tok} {l : List Tok} {e : Int} (h : z0y b x = .inr e) : runM b (x :: l) = .inr (x.at_, e) := by rw [runM, h]
theorem zbh {b : BldM} {x : Tok} (h : x.kind = 1) : z0y b x = z0c b x := by rw [z0y, if_pos h]
theorem za9 {b : BldM} {x : Tok} (h : x.kind = 2) : z0y b x = z14 b x := by rw [z0y, if_neg (by omega), if_pos h]
theorem zen {b : BldM} {x : Tok} (h : x.kind = 3) : z0y b x = z3g b x := by rw [z0y, if_neg (by omega), if_neg (by omega), if_pos h]
theorem zbi {b : BldM} {x : Tok} (h : x.kind = 4) : z0y b x = z5a b x := by rw [z0y, if_neg (by omega), if_neg (by omega), if_neg (by omega)]
theorem zck (size : Nat) (N : List NodeM) (T0 : List ByteArray) (L0 : List Int) (pa : Int) (deep : Nat) (x : Tok) (hT0 : T0.length = N.length) (hL0 : L0.length = N.length) (hdp : deep + 1 ≤ 64) (m : Nat)
 (E : List Tok → Nat → ResT) (hE : ∀ (b : BldM) (y : Tok) (l : List Tok), l.length < m → (y.kind = 1 ∨ y.kind = 3) → KindOk (y :: l) → WfB b → b.inn = N.length → b.deep = deep + 1 → zqa size b (y :: l) (E (y :: l) b.nodes.length)) :
 ∀ (g : Nat) (l : List Tok) (acc : List NodeM) (T : List ByteArray) (L : List Int) (text : ByteArray) (last : Int), l.length < g → l.length ≤ m → KindOk l →
   T.length + 1 = acc.length → L.length + 1 = acc.length → acc[0]?.map (fun y => (y.name, y.parent)) = some (bs x.name, pa) → (last = -1 ∨ ((N.length : Int) ≤ last ∧ last < N.length + acc.length)) →
   zt2 size N T0 L0 pa deep (inB N acc T0 T L0 L text last (deep + 1)) l (z4a E x N.length size g l acc text last)
 | 0, _, _, _, _, _, _, h, _, _, _, _, _, _ => by omega
 | g + 1, [], acc, T, L, text, last, _, _, _, _, _, _, _ => by
   rw [z4a]
   show finM size (.inl _) = _
   unfold finM
   simp only
   rw [if_pos (.inl (by show (N.length : Int) ≠ -1; omega))]
 | g + 1, y :: l, acc, T, L, text, last, hg, hm, hk, hT, hL, ha, hlast => by
   have hne : (N.length : Int) ≠ -1 := by omega
   obtain ⟨he1, he2⟩ := zhr (T := T) (L0 := L0) (L := L) (text := text) (last := last) (deep := deep + 1) hT0 ha
   rw [z4a]
   simp only [List.length_cons] at hg hm
   by_cases k2 : y.kind = 2
   · rw [if_pos k2]
     by_cases hn : bs y.name ≠ bs x.name
     · rw [if_pos hn]
       show finM size (runM _ _) = _
       rw [z4y (e := 50) (by rw [za9 k2]; unfold z14; rw [he2, if_pos (.inr (fun e => hn e.symm))])]
       rfl
     · rw [if_neg hn]
       refine ⟨text :: T, last :: L, by simp [z87, hT], by simp [z87, hL], by rw [z87]; omega, by simp, hk.tail, ?_⟩
       rw [z1y (b' := _) (by rw [za9 k2]; unfold z14; rw [he2, if_neg (fun h => by
        rcases h with h | h
        · exact hne h
        · exact h (Decidable.not_not.1 hn).symm)]), he1]
       rfl
   · rw [if_neg k2]
     by_cases k4 : y.kind = 4
     · rw [if_pos k4]
       have hs : z0y (inB N acc T0 T L0 L text last (deep + 1)) y = .inl (inB N acc T0 T L0 L (text ++ bs y.text) last (deep + 1)) := by
        rw [zbi k4]
        unfold z5a
        rw [if_pos (show (inB N acc T0 T L0 L text last (deep + 1)).inn ≠ -1 from hne), zhp hT0]
        unfold inB
        simp only [Int.toNat_natCast, Sum.inl.injEq, BldM.mk.injEq, true_and, and_true]
        rw [← hT0]
        exact zcj _ T0 (text :: T) 0
       have ih := zck size N T0 L0 pa deep x hT0 hL0 hdp m E hE g l acc T L (text ++ bs y.text) last (by omega) (by omega) hk.tail hT hL ha hlast
       cases hr : z4a E x N.length size g l acc (text ++ bs y.text) last with
       | inr e =>
         rw [hr] at ih
         show finM size (runM _ _) = _
         rw [z1y hs]
         exact ih
       | inl p =>
         rw [hr] at ih
         obtain ⟨sub, rest⟩ := p
         obtain ⟨T', L', h1, h2, h3, h4, h5, h6⟩ := ih
         exact ⟨T', L', h1, h2, h3, by simp only [List.length_cons]; omega, h5, by rw [z1y hs]; exact h6⟩
     · rw [if_neg k4]
       have hwf : WfB (inB N acc T0 T L0 L text last (deep + 1)) := ⟨hdp, by simp [inB, hT0]; omega, by simp [inB, hL0]; omega, .inr ⟨hne, by simp [inB]; omega, by
        rw [zhq hL0]
        rcases hlast with h | h
        · exact .inl h
        · exact .inr (by simp only [inB, List.length_append]; omega)⟩⟩
       have hel := hE (inB N acc T0 T L0 L text last (deep + 1)) y l (by omega) (by have := hk y (by simp); omega) hk hwf rfl rfl
       have hlen : (inB N acc T0 T L0 L text last (deep + 1)).nodes.length = N.length + acc.length := by simp [inB]
       rw [hlen] at hel
       cases hr : E (y :: l) (N.length + acc.length) with
       | inr e =>
         rw [hr] at hel
         exact hel
       | inl p =>
         obtain ⟨sub, rest⟩ := p
         rw [hr] at hel
         obtain ⟨T', L', h1, h2, h3, h4, h5, h6⟩ := hel
         simp only
         have e1 : z7j (inB N acc T0 T L0 L text last (deep + 1)) = N ++ z3u acc N.length last (N.length + acc.length) := by
          unfold z7j
          rw [if_neg (show (inB N acc T0 T L0 L text last (deep + 1)).inn ≠ -1 from hne), zhq hL0, hlen]
          exact zmf hlast
         have e2 : z7k (inB N acc T0 T L0 L text last (deep + 1)) = L0 ++ ((N.length + acc.length : Nat) : Int) :: L := by
          unfold z7k
          rw [if_neg (show (inB N acc T0 T L0 L text last (deep + 1)).inn ≠ -1 from hne), hlen]
          show (L0 ++ last :: L).set (N.length : Int).toNat _ = _
          rw [Int.toNat_natCast, ← hL0]
          exact zcj _ L0 (last :: L) 0
         have e3 : runM (inB N acc T0 T L0 L text last (deep + 1)) (y :: l) = runM (inB N (z3u acc N.length last (N.length + acc.length) ++ sub) T0 (T ++ T') L0 (L ++ L') text ((N.length + acc.length : Nat) : Int) (deep + 1)) rest := by
          rw [h6, e1, e2]
          unfold inB
          simp only [List.append_assoc, List.cons_append]
         have ih := zck size N T0 L0 pa deep x hT0 hL0 hdp m E hE g rest (z3u acc N.length last (N.length + acc.length) ++ sub) (T ++ T') (L ++ L') text ((N.length + acc.length : Nat) : Int) (by simp only [List.length_cons] at h4; omega) (by simp only [List.length_cons] at h4; omega) h5
          (by simp only [List.length_append, z7i]; omega) (by simp only [List.length_append, z7i]; omega) (by
           rw [← ha, ← zjf acc N.length last (N.length + acc.length), List.getElem?_append_left (by rw [z7i]; omega)]) (.inr ⟨by omega, by simp only [List.length_append, z7i]; omega⟩)
         cases hq : z4a E x N.length size g rest (z3u acc N.length last (N.length + acc.length) ++ sub) text ((N.length + acc.length : Nat) : Int) with
         | inr e =>
           rw [hq] at ih
           show finM size (runM _ _) = _
           rw [e3]
           exact ih
         | inl p =>
           rw [hq] at ih
           obtain ⟨sub2, rest2⟩ := p
           obtain ⟨T2, L2, g1, g2, g3, g4, g5, g6⟩ := ih
           exact ⟨T2, L2, g1, g2, g3, by omega, g5, by rw [e3]; exact g6⟩
theorem zhs (size : Nat) : ∀ (f : Nat) (b : BldM) (x : Tok) (l : List Tok), l.length < f → (x.kind = 1 ∨ x.kind = 3) → KindOk (x :: l) → WfB b →
 zqa size b (x :: l) (z4b size f (x :: l) b.inn (b.deep + 1) b.nodes.length)
 | 0, _, _, _, h, _, _, _ => by omega
 | f + 1, b, x, l, hf, hx, hk, hw => by
   have hst : ∀ e, z0c b x = .inr e → runM b (x :: l) = .inr (x.at_, e) := fun e he => by
    rcases hx with hx | hx
    · exact z4y (by rw [zbh hx, he])
    · exact z4y (by rw [zen hx]; unfold z3g; rw [he])
   rw [z4b]
   by_cases hd : dupA (z00 x)
   · rw [if_pos hd]
     show finM size (runM _ _) = _
     rw [hst 50 (by unfold z0c; rw [if_pos (.inr hd)])]
     rfl
   · rw [if_neg hd]
     by_cases hl : b.nodes.length = 4096 ∨ 64 < b.deep + 1
     · rw [if_pos hl]
       show finM size (runM _ _) = _
       rw [hst 3 (by
        unfold z0c
        rw [if_neg (fun h1 => by
         rcases h1 with h1 | h1
         · rcases hw.i with h2 | h2
           · exact h1.2 h2.2
           · exact h2.1 h1.1
         · exact hd h1), if_pos (by have := hw.d; omega)])]
       rfl
     · rw [if_neg hl]
       have ho := zmh hw hd (by have := hw.d; omega : ¬ (b.nodes.length = 4096 ∨ b.deep = 64))
       have hb' : (⟨z7j b ++ [newN x b.inn], b.texts ++ [⟨#[]⟩], z7k b ++ [-1], b.nodes.length, b.deep + 1⟩ : BldM) = inB (z7j b) [newN x b.inn] b.texts [] (z7k b) [] ⟨#[]⟩ (-1) (b.deep + 1) := by
        unfold inB
        rw [z5q]
       rw [hb'] at ho
       have hT0 : b.texts.length = (z7j b).length := by rw [z5q, hw.t]
       have hL0 : (z7k b).length = (z7j b).length := by rw [z5q, zmg, hw.l]
       by_cases k3 : x.kind = 3
       · rw [if_pos k3]
         obtain ⟨he1, -⟩ := zhr (acc := [newN x b.inn]) (T := []) (L0 := z7k b) (L := []) (text := ⟨#[]⟩) (last := -1) (deep := b.deep + 1) hT0 (nm := bs x.name) (pa := b.inn) rfl
         refine ⟨[⟨#[]⟩], [-1], rfl, rfl, by simp, by simp, hk.tail, ?_⟩
         rw [z1y (b' := _) (by rw [zen k3]; unfold z3g; rw [ho]), he1]
         rfl
       · rw [if_neg k3]
         have k1 : x.kind = 1 := hx.resolve_right k3
         have hr := zck size (z7j b) b.texts (z7k b) b.inn b.deep x hT0 hL0 (by omega) l.length (fun l m => z4b size f l b.nodes.length (b.deep + 1 + 1) m)
          (fun b2 y l2 h1 h2 h3 h4 h5 h6 => by
           have := zhs size f b2 y l2 (by omega) h2 h3 h4
           rw [h5, h6, z5q] at this
           exact this) (l.length + 1) l [newN x b.inn] [] [] ⟨#[]⟩ (-1) (by omega) (Nat.le_refl _) hk.tail rfl rfl rfl (.inl rfl)
         rw [z5q] at hr
         have hs : runM b (x :: l) = runM (inB (z7j b) [newN x b.inn] b.texts [] (z7k b) [] ⟨#[]⟩ (-1) (b.deep + 1)) l := z1y (by rw [zbh k1, ho])
         cases hq : z4a (fun l m => z4b size f l b.nodes.length (b.deep + 1 + 1) m) x b.nodes.length size (l.length + 1) l [newN x b.inn] ⟨#[]⟩ (-1) with
         | inr e =>
           rw [hq] at hr
           show finM size (runM _ _) = _
           rw [hs]
           exact hr
         | inl p =>
           rw [hq] at hr
           obtain ⟨sub, rest⟩ := p
           obtain ⟨T, L, h1, h2, h3, h4, h5, h6⟩ := hr
           exact ⟨T, L, h1, h2, h3, by simp only [List.length_cons]; omega, h5, by rw [hs]; exact h6⟩
theorem zaa (b : BldM) (hb : b.inn = -1) : ∀ {l : List Tok}, KindOk l → runM b l = runM b (z86 l)
 | [], _ => rfl
 | x :: l, hk => by
   rw [z86]
   split
   · rename_i h
     rw [z1y (b' := b) (by rw [zbi h.1]; unfold z5a; rw [if_neg (by simp [hb]), if_pos h.2]), zaa b hb hk.tail]
   · rfl
theorem zcl : ∀ {l : List Tok}, KindOk l → KindOk (z86 l)
 | [], h => h
 | x :: l, h => by
   rw [z86]
   split
   · exact zcl h.tail
   · exact h
theorem z88 : ∀ {l : List Tok} {y : Tok} {r : List Tok}, z86 l = y :: r → ¬ (y.kind = 4 ∧ z3f (bs y.text) = true)
 | [], y, r, h => by cases h
 | x :: l, y, r, h => by
   rw [z86] at h
   split at h
   · exact z88 h
   · rename_i hn
     cases h
     exact hn
theorem zmi (size : Nat) (toks : List Tok) (hk : KindOk toks) : finM size (runM initM toks) = refM size toks := by
 rw [zaa initM rfl hk]
 unfold refM
 have h0 := zcl hk
 have h1 := @z88 toks
 generalize z86 toks = l at *
 cases l with
 | nil => rfl
 | cons x l =>
   have hx := h0 x (by simp)
   have hx4 := h1 rfl
   simp only
   by_cases h24 : x.kind = 2 ∨ x.kind = 4
   · rw [if_pos h24]
     rcases h24 with h2 | h4
     · rw [z4y (e := 50) (by rw [za9 h2]; unfold z14; rw [if_pos (.inl rfl)])]; rfl
     · rw [z4y (e := 50) (by rw [zbi h4]; unfold z5a; rw [if_neg (by simp [initM]), if_neg (fun h => hx4 ⟨h4, h⟩)])]; rfl
   · rw [if_neg h24]
     have hel := zhs size ((x :: l).length + 1) initM x l (by simp only [List.length_cons]; omega) (by omega) h0 ⟨by decide, rfl, rfl, .inl ⟨rfl, rfl⟩⟩
     have e0 : z4b size ((x :: l).length + 1) (x :: l) initM.inn (initM.deep + 1) initM.nodes.length = z4b size ((x :: l).length + 1) (x :: l) (-1) 1 0 := rfl
     rw [e0] at hel
     cases hr : z4b size ((x :: l).length + 1) (x :: l) (-1) 1 0 with
     | inr e => rw [hr] at hel; exact hel
     | inl p =>
       obtain ⟨sub, rest⟩ := p
       rw [hr] at hel
       obtain ⟨T, L, g1, g2, g3, g4, g5, g6⟩ := hel
       rw [g6]
       simp only
       generalize hB : (⟨z7j initM ++ sub, initM.texts ++ T, z7k initM ++ L, initM.inn, initM.deep⟩ : BldM) = B
       have hi : B.inn = -1 := by rw [← hB]; rfl
       have hn : B.nodes = sub := by rw [← hB]; rfl
       have hn0 : sub ≠ [] := fun e => by rw [e] at g3; exact absurd g3 (by simp)
       rw [zaa B hi g5]
       have s0 := zcl g5
       have s1 := @z88 rest
       generalize z86 rest = r at *
       cases r with
       | nil =>
         show finM size (.inl B) = _
         unfold finM
         simp only
         rw [if_neg (by rw [hi, hn]; simp [hn0]), hn]
       | cons y r =>
         have hy := s0 y (by simp)
         have hy4 := s1 rfl
         have hop : z0c B y = .inr 50 := by unfold z0c; rw [if_pos (.inl ⟨hi, by rw [hn]; exact hn0⟩)]
         have hst : z0y B y = .inr 50 := by
          rcases hy with h | h | h | h
          · rw [zbh h, hop]
          · rw [za9 h]; unfold z14; rw [if_pos (.inl hi)]
          · rw [zen h]; unfold z3g; rw [hop]
          · rw [zbi h]; unfold z5a; rw [if_neg (by simp [hi]), if_neg (fun hb => hy4 ⟨h, hb⟩)]
         rw [z4y hst]
         rfl
end Go.Proofs.YtncecbgpkoihpaaGreatDoor
