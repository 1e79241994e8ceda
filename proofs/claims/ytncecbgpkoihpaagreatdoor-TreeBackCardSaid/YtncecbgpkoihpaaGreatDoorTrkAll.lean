/- Trees in plain Lean: the places that nodes should have, by their parents. -/
import Derived.Test.YtncecbgpkoihpaaGreatDoorTrePq
import Derived.Test.YtncecbgpkoihpaaGreatDoorTreNo
import Derived.Test.YtncecbgpkoihpaaGreatDoorTokR
namespace Go.Proofs.YtncecbgpkoihpaaGreatDoor
abbrev PlM := Int × Int × Int
structure LkM where
 pl : List PlM
 last : List Int
 opn : List Nat
def popO (p : Int) : List Nat → List Nat
 | [] => []
 | t :: r => if (t : Int) = p then t :: r else popO p r
def fstP (n : Int) (x : PlM) : PlM := (x.1, n, x.2.2)
def nxtP (n : Int) (x : PlM) : PlM := (x.1, x.2.1, n)
def lnkP (l : List PlM) (p k : Int) (n : Nat) : List PlM := if k = -1 then l.modify p.toNat (fstP n) else l.modify k.toNat (nxtP n)
def z5r (b : LkM) (p : Int) : Int := b.last[p.toNat]?.getD (-1)
def zaq (b : LkM) (p : Int) : Prop := ¬ (popO p b.opn = [] ↔ b.pl = []) ∨ (b.pl = [] ∧ p ≠ -1) ∨ (popO p b.opn).length = 64
instance (b : LkM) (p : Int) : Decidable (zaq b p) := inferInstanceAs (Decidable (_ ∨ _))
def z1m (b : LkM) (p : Int) : LkM := {
 pl := if b.pl = [] then [(p, -1, -1)] else lnkP (b.pl ++ [(p, -1, -1)]) p (z5r b p) b.pl.length
 last := if b.pl = [] then [-1] else (b.last ++ [-1]).set p.toNat b.pl.length
 opn := b.pl.length :: popO p b.opn }
def z1f (b : LkM) (p : Int) : Option LkM := if zaq b p then none else some (z1m b p)
def z2r (b : LkM) : List Int → Option LkM
 | [] => some b
 | p :: l => match z1f b p with
   | none => none
   | some b' => z2r b' l
def lk0 : LkM := ⟨[], [], []⟩
structure WfL (b : LkM) : Prop where
 len : b.last.length = b.pl.length
 o : ∀ t ∈ b.opn, t < b.pl.length
 k : ∀ x ∈ b.last, x = -1 ∨ (0 ≤ x ∧ x < b.pl.length)
 d : b.opn.length ≤ 64
theorem WfL.init : WfL lk0 := ⟨rfl, fun t h => (by cases h), fun t h => (by cases h), by decide⟩
theorem zht {p : Int} : ∀ l : List Nat, (popO p l).length ≤ l.length
 | [] => Nat.le_refl _
 | x :: l => by
   rw [popO]
   split
   · exact Nat.le_refl _
   · have := zht (p := p) l
     rw [List.length_cons]
     omega
theorem zhu {p : Int} : ∀ {l : List Nat} {t : Nat}, t ∈ popO p l → t ∈ l
 | [], _, h => by cases h
 | x :: l, t, h => by
   rw [popO] at h
   split at h
   · exact h
   · exact List.mem_cons_of_mem _ (zhu h)
theorem zeo {p : Int} : ∀ {l : List Nat} {t : Nat} {r : List Nat}, popO p l = t :: r → (t : Int) = p
 | [], _, _, h => by cases h
 | x :: l, t, r, h => by
   rw [popO] at h
   split at h
   · rename_i hx
     cases h
     exact hx
   · exact zeo h
theorem zpk (l : List PlM) (p k : Int) (n : Nat) : (lnkP l p k n).length = l.length := by unfold lnkP; split <;> simp
theorem zmj (b : LkM) (p : Int) : (z1m b p).pl.length = b.pl.length + 1 := by
 unfold z1m
 simp only
 split
 · rename_i h
   rw [h]
   rfl
 · rw [zpk, List.length_append]
   rfl
theorem WfL.step {b b' : LkM} {p : Int} (h : WfL b) (hs : z1f b p = some b') : WfL b' ∧ b'.pl.length = b.pl.length + 1 := by
 unfold z1f at hs
 split at hs
 · cases hs
 · rename_i hbad
   cases hs
   have hl := zmj b p
   refine ⟨⟨?_, ?_, ?_, ?_⟩, hl⟩
   · rw [hl]
     unfold z1m
     simp only
     split
     · rename_i h0
       rw [h0]
       rfl
     · rw [List.length_set, List.length_append, h.len]
       rfl
   · intro t ht
     rw [hl]
     rcases List.mem_cons.1 ht with rfl | ht
     · omega
     · have := h.o t (zhu ht)
       omega
   · intro x hx
     rw [hl]
     unfold z1m at hx
     simp only at hx
     split at hx
     · rw [List.mem_singleton] at hx
       exact .inl hx
     · rcases List.mem_or_eq_of_mem_set hx with hx | rfl
       · rcases List.mem_append.1 hx with hx | hx
         · rcases h.k x hx with h1 | h1
           · exact .inl h1
           · exact .inr ⟨h1.1, by omega⟩
         · rw [List.mem_singleton] at hx
           exact .inl hx
       · exact .inr ⟨by omega, by omega⟩
   · have h1 := zht (p := p) b.opn
     have h2 := h.d
     have h3 : (popO p b.opn).length ≠ 64 := fun e => hbad (.inr (.inr e))
     show (popO p b.opn).length + 1 ≤ 64
     omega
theorem zmk {b : LkM} (h : WfL b) (p : Int) : z5r b p = -1 ∨ (0 ≤ z5r b p ∧ z5r b p < b.pl.length) := by
 unfold z5r
 cases hg : b.last[p.toNat]? with
 | none => exact .inl rfl
 | some x =>
   rw [Option.getD_some]
   obtain ⟨h1, h2⟩ := List.getElem?_eq_some_iff.1 hg
   exact h.k x (h2 ▸ List.getElem_mem h1)
def padG {α β : Type} (f : α → β) (z : β) (n : Nat) (l : List α) : List β := l.map f ++ List.replicate (n - l.length) z
section
variable {α β : Type} {f : α → β} {z : β} {n : Nat} {l : List α}
theorem zhv : padG f z n [] = List.replicate n z := by simp [padG]
theorem z32 (h : l.length ≤ n) : (padG f z n l).length = n := by
 unfold padG
 rw [List.length_append, List.length_map, List.length_replicate]
 omega
theorem zml (h : l.length = n) : padG f z n l = l.map f := by
 unfold padG
 rw [h, Nat.sub_self]
 simp
theorem zep (h : l.length < n) (x : α) : (padG f z n l).set l.length (f x) = padG f z n (l ++ [x]) := by
 unfold padG
 obtain ⟨m, hm⟩ : ∃ m, n - l.length = m + 1 := ⟨n - l.length - 1, by omega⟩
 have hm2 : n - (l ++ [x]).length = m := by rw [List.length_append, List.length_singleton]; omega
 rw [hm, hm2, List.replicate_succ, List.map_append, List.append_assoc]
 have := zcj (f x) (l.map f) (z :: List.replicate m z) 0
 rw [List.length_map, Nat.add_zero] at this
 rw [this]
 rfl
theorem zcm {j : Nat} (h : j < l.length) (x : α) : (padG f z n l).set j (f x) = padG f z n (l.set j x) := by
 unfold padG
 rw [List.set_append_left _ _ (by rw [List.length_map]; exact h), ← List.map_set, List.length_set]
theorem z97 {j : Nat} (h : j < l.length) (hj : j < (padG f z n l).length) : (padG f z n l)[j] = f l[j] := by
 unfold padG at hj ⊢
 rw [List.getElem_append_left (by rw [List.length_map]; exact h), List.getElem_map]
end
theorem z89 {α : Type} (f : α → α) : ∀ (l : List α) (j : Nat) (h : j < l.length), l.modify j f = l.set j (f l[j])
 | [], j, h => absurd h (by simp)
 | x :: l, 0, h => by simp
 | x :: l, j + 1, h => by
   rw [List.modify_succ_cons, List.set_cons_succ, z89 f l j (by simpa using h)]
   rfl
theorem z5s : ∀ {l : List Int} {b b' : LkM}, WfL b → z2r b l = some b' → WfL b' ∧ b'.pl.length = b.pl.length + l.length
 | [], b, b', h, hr => by cases hr; exact ⟨h, by simp⟩
 | p :: l, b, b', h, hr => by
   rw [z2r] at hr
   cases hs : z1f b p with
   | none => rw [hs] at hr; cases hr
   | some b2 =>
     rw [hs] at hr
     obtain ⟨h1, h2⟩ := h.step hs
     obtain ⟨h3, h4⟩ := z5s h1 hr
     refine ⟨h3, ?_⟩
     rw [h4, h2, List.length_cons]
     omega
end Go.Proofs.YtncecbgpkoihpaaGreatDoor
namespace Go.Proofs.YtncecbgpkoihpaaGreatDoor
inductive Fo where
 | nil : Fo
 | cons (x : NodeM) (k r : Fo) : Fo
namespace Fo
def size : Fo → Nat
 | nil => 0
 | cons _ k r => 1 + k.size + r.size
def depth : Fo → Nat
 | nil => 0
 | cons _ k r => max (1 + k.depth) r.depth
def isNil : Fo → Bool
 | nil => true
 | cons _ _ _ => false
def mk (x : NodeM) (p : Int) (n : Nat) (k r : Fo) : NodeM := { x with parent := p, first := if k.isNil = true then -1 else ((n + 1 : Nat) : Int), next := if r.isNil = true then -1 else ((n + 1 + k.size : Nat) : Int) }
def flat : Fo → Int → Nat → List NodeM
 | nil, _, _ => []
 | cons x k r, p, n => mk x p n k r :: (k.flat n (n + 1) ++ r.flat p (n + 1 + k.size))
theorem flat_len : ∀ (F : Fo) (p : Int) (n : Nat), (F.flat p n).length = F.size
 | nil, _, _ => rfl
 | cons x k r, p, n => by
   rw [flat, List.length_cons, List.length_append, flat_len k, flat_len r, size]
   omega
def snoc : Fo → NodeM → Fo → Fo
 | nil, x, k => cons x k nil
 | cons y k' r, x, k => cons y k' (r.snoc x k)
def lastR : Fo → Nat → Int
 | nil, _ => -1
 | cons _ _ nil, n => n
 | cons _ k (cons y k' r), n => lastR (cons y k' r) (n + 1 + k.size)
theorem lastR_or : ∀ (F : Fo) (n : Nat), (F.isNil = true ∧ F.lastR n = -1) ∨ (F.isNil = false ∧ (n : Int) ≤ F.lastR n ∧ F.lastR n < n + F.size)
 | nil, _ => .inl ⟨rfl, rfl⟩
 | cons x k nil, n => by
   right
   refine ⟨rfl, ?_, ?_⟩ <;> simp only [lastR, size] <;> omega
 | cons x k (cons y k' r), n => by
   right
   rcases lastR_or (cons y k' r) (n + 1 + k.size) with ⟨h, -⟩ | ⟨-, h1, h2⟩
   · cases h
   · have e : (cons x k (cons y k' r)).size = 1 + k.size + (cons y k' r).size := rfl
     rw [lastR, e]
     exact ⟨rfl, by omega, by omega⟩
theorem snoc_notNil : ∀ (F : Fo) (x : NodeM) (k : Fo), (F.snoc x k).isNil = false
 | nil, _, _ => rfl
 | cons _ _ _, _, _ => rfl
theorem snoc_depth : ∀ (F : Fo) (x : NodeM) (k : Fo), (F.snoc x k).depth = max F.depth (1 + k.depth)
 | nil, x, k => by simp only [snoc, depth]; omega
 | cons y k' r, x, k => by rw [snoc, depth, snoc_depth r, depth]; omega
theorem lastR_snoc : ∀ (F : Fo) (x : NodeM) (k : Fo) (n : Nat), (F.snoc x k).lastR n = ((n + F.size : Nat) : Int)
 | nil, x, k, n => by simp only [snoc, lastR, size, Nat.add_zero]
 | cons y k' r, x, k, n => by
   have h := lastR_snoc r x k (n + 1 + k'.size)
   rw [snoc, size]
   cases hr : r.snoc x k with
   | nil => have := snoc_notNil r x k; rw [hr] at this; cases this
   | cons z k2 r2 =>
     rw [hr] at h
     rw [lastR, h]
     congr 1
     omega
def lnk (l : List NodeM) (last : Int) (n m : Nat) : List NodeM := if last = -1 then l else l.modify (last.toNat - n) (nxtN m)
theorem flat_snoc : ∀ (F : Fo) (x : NodeM) (k : Fo) (p : Int) (n : Nat), (F.snoc x k).flat p n = lnk (F.flat p n) (F.lastR n) n (n + F.size) ++ (cons x k nil).flat p (n + F.size)
 | nil, x, k, p, n => by simp [snoc, flat, lastR, lnk, size]
 | cons y k' nil, x, k, p, n => by
   have e1 : (cons y k' nil).flat p n = mk y p n k' nil :: (k'.flat n (n + 1) ++ []) := rfl
   have e2 : n + (cons y k' nil).size = n + 1 + k'.size := by simp only [size]; omega
   have e3 : ((cons y k' nil).snoc x k).flat p n = mk y p n k' (cons x k nil) :: (k'.flat n (n + 1) ++ (cons x k nil).flat p (n + 1 + k'.size)) := rfl
   have e4 : (cons y k' nil).lastR n = (n : Int) := rfl
   rw [e3, e1, e2, e4, lnk, if_neg (by omega), Int.toNat_natCast, Nat.sub_self, List.append_nil, List.modify_zero_cons, List.cons_append]
   rfl
 | cons y k' (cons z k2 r2), x, k, p, n => by
   have ih := flat_snoc (cons z k2 r2) x k p (n + 1 + k'.size)
   have hl := lastR_or (cons z k2 r2) (n + 1 + k'.size)
   rcases hl with ⟨h, -⟩ | ⟨-, h1, h2⟩
   · cases h
   · have hn : (cons y k' ((cons z k2 r2).snoc x k)).flat p n = mk y p n k' ((cons z k2 r2).snoc x k) :: (k'.flat n (n + 1) ++ ((cons z k2 r2).snoc x k).flat p (n + 1 + k'.size)) := rfl
     have hf : (cons y k' (cons z k2 r2)).flat p n = mk y p n k' (cons z k2 r2) :: (k'.flat n (n + 1) ++ (cons z k2 r2).flat p (n + 1 + k'.size)) := rfl
     have hm : mk y p n k' ((cons z k2 r2).snoc x k) = mk y p n k' (cons z k2 r2) := rfl
     have hs : n + (cons y k' (cons z k2 r2)).size = n + 1 + k'.size + (cons z k2 r2).size := by
      show n + (1 + k'.size + (cons z k2 r2).size) = _
      omega
     have hla : (cons y k' (cons z k2 r2)).lastR n = (cons z k2 r2).lastR (n + 1 + k'.size) := rfl
     rw [snoc, hn, hm, hf, ih, hla, hs]
     generalize (cons z k2 r2).lastR (n + 1 + k'.size) = la at *
     generalize (cons z k2 r2).flat p (n + 1 + k'.size) = B at *
     unfold lnk
     rw [if_neg (by omega), if_neg (by omega)]
     obtain ⟨j, rfl⟩ : ∃ j : Nat, la = ((n + 1 + k'.size + j : Nat) : Int) := ⟨(la - ((n + 1 + k'.size : Nat) : Int)).toNat, by omega⟩
     rw [Int.toNat_natCast, show n + 1 + k'.size + j - (n + 1 + k'.size) = j from by omega, show n + 1 + k'.size + j - n = (k'.size + j) + 1 from by omega, List.modify_succ_cons]
     have hA := z4c (nxtN ((n + 1 + k'.size + (cons z k2 r2).size : Nat) : Int)) (k'.flat n (n + 1)) B j
     rw [flat_len] at hA
     rw [hA, List.cons_append, List.append_assoc]
end Fo
def IsFo (p : Int) (deep n : Nat) (sub : List NodeM) : Prop := ∃ x k, sub = (Fo.cons x k .nil).flat p n ∧ (Fo.cons x k .nil).depth + deep ≤ 65
theorem zgf {E : List Tok → Nat → ResT} {x : Tok} {n size deep : Nat} {p : Int} (hE : ∀ l m sub rest, E l m = .inl (sub, rest) → IsFo n (deep + 1) m sub) :
 ∀ (g : Nat) (l : List Tok) (acc : List NodeM) (text : ByteArray) (last : Int) (sub : List NodeM) (rest : List Tok), z4a E x n size g l acc text last = .inl (sub, rest) →
   (∃ h K, acc = Fo.mk h p n K .nil :: K.flat n (n + 1) ∧ last = K.lastR (n + 1) ∧ (Fo.cons h K .nil).depth + deep ≤ 65) → IsFo p deep n sub
 | 0, _, _, _, _, _, _, h, _ => by cases h
 | g + 1, [], _, _, _, _, _, h, _ => by cases h
 | g + 1, y :: l, acc, text, last, sub, rest, h, ⟨hd, K, h1, h2, h3⟩ => by
   rw [z4a] at h
   split at h
   · split at h
     · cases h
     · cases h
       unfold z8m
       split
       · exact ⟨hd, K, by rw [h1, Fo.flat, Fo.flat, List.append_nil], h3⟩
       · refine ⟨{ hd with text := text }, K, ?_, h3⟩
         rw [h1, List.modify_zero_cons, Fo.flat, Fo.flat, List.append_nil]
         rfl
   · split at h
     · exact zgf hE g l acc _ last sub rest h ⟨hd, K, h1, h2, h3⟩
     · cases he : E (y :: l) (n + acc.length) with
       | inr e => rw [he] at h; cases h
       | inl r =>
         obtain ⟨sub1, rest1⟩ := r
         rw [he] at h
         obtain ⟨z, k, g1, g2⟩ := hE _ _ _ _ he
         have hal : acc.length = 1 + K.size := by rw [h1, List.length_cons, Fo.flat_len]; omega
         refine zgf hE g rest1 _ text _ sub rest h ⟨hd, K.snoc z k, ?_, ?_, ?_⟩
         · rw [Fo.flat_snoc, g1, hal, show n + (1 + K.size) = n + 1 + K.size from by omega]
           rcases Fo.lastR_or K (n + 1) with ⟨k1, k2⟩ | ⟨k1, k2, k3⟩
           · cases K with
             | cons _ _ _ => cases k1
             | nil =>
               rw [h1, h2]
               unfold z3u Fo.lnk
               rw [if_pos (by rfl), if_pos (by rfl)]
               rfl
           · have hm : Fo.mk hd p n (K.snoc z k) .nil = Fo.mk hd p n K .nil := by
              unfold Fo.mk
              rw [Fo.snoc_notNil, k1]
              rfl
             rw [hm, h1]
             unfold z3u Fo.lnk
             rw [h2, if_neg (by omega), if_neg (by omega)]
             obtain ⟨j, hj⟩ : ∃ j : Nat, K.lastR (n + 1) = ((n + 1 + j : Nat) : Int) := ⟨(K.lastR (n + 1) - ((n + 1 : Nat) : Int)).toNat, by omega⟩
             rw [hj, Int.toNat_natCast, show n + 1 + j - n = j + 1 from by omega, show n + 1 + j - (n + 1) = j from by omega, List.modify_succ_cons, List.cons_append]
         · rw [Fo.lastR_snoc, hal]
           congr 1
           omega
         · have e1 : (Fo.cons hd (K.snoc z k) .nil).depth = max (1 + (K.snoc z k).depth) 0 := rfl
           have e2 : (Fo.cons hd K .nil).depth = max (1 + K.depth) 0 := rfl
           have e3 : (Fo.cons z k .nil).depth = max (1 + k.depth) 0 := rfl
           rw [e1, Fo.snoc_depth]
           omega
theorem zmm {size : Nat} : ∀ (f : Nat) (l : List Tok) (p : Int) (deep n : Nat) (sub : List NodeM) (rest : List Tok), z4b size f l p deep n = .inl (sub, rest) → IsFo p deep n sub
 | 0, _, _, _, _, _, _, h => by cases h
 | f + 1, [], _, _, _, _, _, h => by cases h
 | f + 1, x :: l, p, deep, n, sub, rest, h => by
   rw [z4b] at h
   split at h
   · cases h
   · split at h
     · cases h
     · rename_i hlim
       have hd : (Fo.cons (newN x p) .nil .nil).depth + deep ≤ 65 := by
        have : (Fo.cons (newN x p) .nil .nil).depth = 1 := rfl
        omega
       split at h
       · cases h
         exact ⟨newN x p, .nil, rfl, hd⟩
       · exact zgf (p := p) (deep := deep) (fun l m sub rest he => zmm f l n (deep + 1) m sub rest he) _ _ _ _ _ _ _ h ⟨newN x p, .nil, rfl, rfl, hd⟩
theorem zt3 {size : Nat} {toks : List Tok} {N : List NodeM} {p e : Int} (h : refM size toks = (N, p, e)) (hN : N ≠ []) : ∃ x k, N = (Fo.cons x k .nil).flat (-1) 0 ∧ (Fo.cons x k .nil).depth ≤ 64 := by
 unfold refM at h
 split at h
 · cases h; exact absurd rfl hN
 · split at h
   · cases h; exact absurd rfl hN
   · split at h
     · cases h; exact absurd rfl hN
     · rename_i he
       split at h
       · cases h
         obtain ⟨x, k, g1, g2⟩ := zmm _ _ _ _ _ _ _ he
         exact ⟨x, k, g1, by omega⟩
       · cases h; exact absurd rfl hN
end Go.Proofs.YtncecbgpkoihpaaGreatDoor
namespace Go.Proofs.YtncecbgpkoihpaaGreatDoor
def shp (y : PlM) : NodeM := ⟨bs [], [], ⟨#[]⟩, y.1, y.2.1, y.2.2, 0⟩
def tkO : Tok := ⟨1, [], [], [], 0⟩
def tkC : Tok := ⟨2, [], [], [], 0⟩
def topI : List Nat → Int
 | [] => -1
 | t :: _ => t
def ChainO (ps : List Int) : List Nat → Prop
 | [] => True
 | t :: r => ps[t]? = some (topI r) ∧ ChainO ps r
theorem ChainO.app {ps qs : List Int} : ∀ {o : List Nat}, ChainO ps o → ChainO (ps ++ qs) o
 | [], _ => trivial
 | t :: r, h => ⟨by
     obtain ⟨h1, h2⟩ := List.getElem?_eq_some_iff.1 h.1
     rw [List.getElem?_append_left h1, h.1], h.2.app⟩
theorem ChainO.drop {ps : List Int} : ∀ {pre o : List Nat}, ChainO ps (pre ++ o) → ChainO ps o
 | [], _, h => h
 | _ :: pre, o, h => (h.2 : ChainO ps (pre ++ o)).drop
theorem zhw (p : Int) : ∀ l : List Nat, ∃ pre, l = pre ++ popO p l
 | [] => ⟨[], rfl⟩
 | t :: r => by
   rw [popO]
   split
   · exact ⟨[], rfl⟩
   · obtain ⟨pre, h⟩ := zhw p r
     exact ⟨t :: pre, by rw [List.cons_append, ← h]⟩
theorem zpl {p : Int} {l : List Nat} (h : popO p l ≠ []) : topI (popO p l) = p := by
 cases hp : popO p l with
 | nil => exact absurd hp h
 | cons t r => exact zeo hp
theorem z06 {α β : Type} {g : α → β} {f : α → α} {f' : β → β} (h : ∀ x, g (f x) = f' (g x)) : ∀ (l : List α) (i : Nat), (l.modify i f).map g = (l.map g).modify i f'
 | [], i => by simp
 | x :: l, 0 => by simp [h]
 | x :: l, i + 1 => by rw [List.modify_succ_cons, List.map_cons, z06 h l i, List.map_cons, List.modify_succ_cons]
theorem zpm (l : List PlM) (p k : Int) (n : Nat) : (lnkP l p k n).map shp = z1k (l.map shp) p k n := by
 unfold lnkP z1k
 split
 · exact z06 (g := shp) (f := fstP n) (f' := fstN n) (fun _ => rfl) _ _
 · exact z06 (g := shp) (f := nxtP n) (f' := nxtN n) (fun _ => rfl) _ _
theorem z1z {α : Type} : ∀ (l : List α) (i : Nat), l.modify i (fun x => x) = l
 | [], i => by simp
 | x :: l, 0 => by simp
 | x :: l, i + 1 => by rw [List.modify_succ_cons, z1z]
theorem zpn (l : List PlM) (p k : Int) (n : Nat) : (lnkP l p k n).map (·.1) = l.map (·.1) := by
 unfold lnkP
 split
 · rw [z06 (g := fun y : PlM => y.1) (f := fstP n) (f' := fun x => x) (fun _ => rfl), z1z]
 · rw [z06 (g := fun y : PlM => y.1) (f := nxtP n) (f' := fun x => x) (fun _ => rfl), z1z]
theorem zab (b : LkM) (p : Int) : (z1m b p).pl.map (·.1) = b.pl.map (·.1) ++ [p] := by
 unfold z1m
 simp only
 split
 · rename_i h
   rw [h]
   rfl
 · rw [zpn, List.map_append]
   rfl
theorem zac {b b' : LkM} {p : Int} (h : z1f b p = some b') : ¬ zaq b p ∧ b' = z1m b p := by
 unfold z1f at h
 split at h
 · cases h
 · rename_i hb
   cases h
   exact ⟨hb, rfl⟩
theorem zeq : ∀ {l : List Int} {b b' : LkM}, z2r b l = some b' → b'.pl.map (·.1) = b.pl.map (·.1) ++ l
 | [], b, b', h => by cases h; simp
 | p :: l, b, b', h => by
   rw [z2r] at h
   cases hs : z1f b p with
   | none => rw [hs] at h; cases h
   | some b2 =>
     rw [hs] at h
     obtain ⟨-, rfl⟩ := zac hs
     rw [zeq h, zab, List.append_assoc]
     rfl
structure SimL (b : LkM) (o : List Nat) (B : BldM) : Prop where
 nodes : B.nodes = b.pl.map shp
 lasts : B.lasts = b.last
 texts : ∀ t ∈ B.texts, t = ⟨#[]⟩
 inn : B.inn = topI o
 deep : B.deep = o.length
 ch : ChainO (b.pl.map (·.1)) o
 wf : WfL b
theorem SimL.pop {b : LkM} {t : Nat} {r : List Nat} {B : BldM} (h : SimL b (t :: r) B) : z0y B tkC = .inl (z2q B) ∧ SimL b r (z2q B) := by
 have hi : B.inn = (t : Int) := h.inn
 obtain ⟨h1, h2⟩ := h.ch
 rw [List.getElem?_map, Option.map_eq_some_iff] at h1
 obtain ⟨y, hy, hy2⟩ := h1
 have hn : z28 B = shp y := by
  unfold z28
  rw [hi, Int.toNat_natCast, h.nodes, List.getElem?_map, hy]
  rfl
 have ht : z0m B = ⟨#[]⟩ := by
  unfold z0m
  cases hg : B.texts[B.inn.toNat]? with
  | none => rfl
  | some z =>
    obtain ⟨g1, g2⟩ := List.getElem?_eq_some_iff.1 hg
    exact h.texts z (g2 ▸ List.getElem_mem g1)
 have hb : z3f (⟨#[]⟩ : ByteArray) = true := rfl
 constructor
 · rw [za9 rfl]
   unfold z14
   rw [if_neg]
   rintro (h0 | h0)
   · omega
   · rw [hn] at h0
     exact h0 rfl
 · refine ⟨?_, h.lasts, h.texts, ?_, ?_, h2, h.wf⟩
   · unfold z2q
     simp only
     rw [ht, if_pos hb]
     exact h.nodes
   · unfold z2q
     simp only
     rw [hn]
     exact hy2
   · unfold z2q
     simp only
     rw [h.deep]
     rfl
theorem SimL.pops {b : LkM} : ∀ {pre r : List Nat} {B : BldM}, SimL b (pre ++ r) B → ∃ B', (∀ l, runM B (List.replicate pre.length tkC ++ l) = runM B' l) ∧ SimL b r B'
 | [], r, B, h => ⟨B, fun l => rfl, h⟩
 | t :: pre, r, B, h => by
   obtain ⟨h1, h2⟩ := SimL.pop (t := t) (r := pre ++ r) h
   obtain ⟨B', h3, h4⟩ := SimL.pops h2
   refine ⟨B', fun l => ?_, h4⟩
   rw [List.length_cons, List.replicate_succ, List.cons_append, z1y h1, h3]
theorem SimL.push {b b' : LkM} {p : Int} {B : BldM} (h : SimL b (popO p b.opn) B) (hs : z1f b p = some b') (hn : b.pl.length < 4096) : ∃ B', z0y B tkO = .inl B' ∧ SimL b' b'.opn B' := by
 obtain ⟨hbad, rfl⟩ := zac hs
 unfold zaq at hbad
 have hiff : popO p b.opn = [] ↔ b.pl = [] := Decidable.not_not.1 fun e => hbad (.inl e)
 have hroot : b.pl = [] → p = -1 := fun e => Decidable.not_not.1 fun e2 => hbad (.inr (.inl ⟨e, e2⟩))
 have h64 : (popO p b.opn).length ≠ 64 := fun e => hbad (.inr (.inr e))
 have hlen : B.nodes.length = b.pl.length := by rw [h.nodes, List.length_map]
 have hin : B.inn = p := by
  rw [h.inn]
  by_cases h0 : popO p b.opn = []
  · rw [h0, hroot (hiff.1 h0)]
    rfl
  · exact zpl h0
 have hm1 : B.inn = -1 ↔ b.pl = [] := by
  rw [← hiff, h.inn]
  cases popO p b.opn with
  | nil => simp [topI]
  | cons t r => simp only [topI, reduceCtorEq, iff_false]; first | done | omega
 have hop : z0c B tkO = .inl {
  nodes := if B.inn = -1 then B.nodes ++ [newN tkO B.inn] else z1k (B.nodes ++ [newN tkO B.inn]) B.inn (z1b B) B.nodes.length
  texts := B.texts ++ [⟨#[]⟩]
  lasts := if B.inn = -1 then B.lasts ++ [-1] else (B.lasts ++ [-1]).set B.inn.toNat B.nodes.length
  inn := B.nodes.length
  deep := B.deep + 1 } := by
  unfold z0c
  rw [if_neg, if_neg]
  · rintro (e | e)
    · omega
    · rw [h.deep] at e; exact h64 e
  · rintro (⟨e1, e2⟩ | e)
    · refine e2 ?_
      rw [h.nodes, hm1.1 e1]
      rfl
    · exact e .nil
 refine ⟨_, (zbh rfl).trans hop, ?_⟩
 have hnew : newN tkO B.inn = shp (p, -1, -1) := by rw [hin]; rfl
 have hla : z1b B = z5r b p := by unfold z1b z5r; rw [h.lasts, hin]
 refine ⟨?_, ?_, ?_, ?_, ?_, ?_, (h.wf.step hs).1⟩
 · simp only
   unfold z1m
   simp only
   by_cases h0 : b.pl = []
   · rw [if_pos (hm1.2 h0), if_pos h0, hnew, h.nodes, h0]
     rfl
   · rw [if_neg (fun e => h0 (hm1.1 e)), if_neg h0, zpm, List.map_append, hnew, hla, hin, hlen, h.nodes]
     rfl
 · simp only
   unfold z1m
   simp only
   by_cases h0 : b.pl = []
   · have hl0 : b.last = [] := List.eq_nil_of_length_eq_zero (by rw [h.wf.len, h0]; rfl)
     rw [if_pos (hm1.2 h0), if_pos h0, h.lasts, hl0]
     rfl
   · rw [if_neg (fun e => h0 (hm1.1 e)), if_neg h0, hin, hlen, h.lasts]
 · intro t ht
   rcases List.mem_append.1 ht with ht | ht
   · exact h.texts t ht
   · exact List.mem_singleton.1 ht
 · simp only
   rw [hlen]
   rfl
 · simp only
   rw [h.deep]
   rfl
 · show ChainO _ (b.pl.length :: popO p b.opn)
   rw [zab]
   refine ⟨?_, h.ch.app⟩
   rw [List.getElem?_append_right (by rw [List.length_map]; exact Nat.le_refl _), List.length_map, Nat.sub_self, ← h.inn, hin]
   rfl
theorem zmn : ∀ {ps : List Int} {b b' : LkM} {B : BldM}, z2r b ps = some b' → SimL b b.opn B → b.pl.length + ps.length ≤ 4096 → ∃ toks B', KindOk toks ∧ (∀ l, runM B (toks ++ l) = runM B' l) ∧ SimL b' b'.opn B'
 | [], b, b', B, h, hs, _ => by cases h; exact ⟨[], B, fun x hx => (by cases hx), fun l => rfl, hs⟩
 | p :: ps, b, b', B, h, hs, hn => by
   rw [z2r] at h
   rw [List.length_cons] at hn
   cases hst : z1f b p with
   | none => rw [hst] at h; cases h
   | some b2 =>
     rw [hst] at h
     obtain ⟨pre, hpre⟩ := zhw p b.opn
     rw [hpre] at hs
     obtain ⟨B1, h1, h2⟩ := hs.pops
     obtain ⟨B2, h3, h4⟩ := h2.push hst (by omega)
     have h5 := (h2.wf.step hst).2
     obtain ⟨toks, B3, k1, k2, k3⟩ := zmn h h4 (by omega)
     refine ⟨List.replicate pre.length tkC ++ tkO :: toks, B3, ?_, ?_, k3⟩
     · intro x hx
       rcases List.mem_append.1 hx with hx | hx
       · rw [List.eq_of_mem_replicate hx]
         exact .inr (.inl rfl)
       · rcases List.mem_cons.1 hx with rfl | hx
         · exact .inl rfl
         · exact k1 x hx
     · intro l
       rw [List.append_assoc, h1, List.cons_append, z1y h3, k2]
theorem zti {ps : List Int} {b : LkM} (h : z2r lk0 ps = some b) (h0 : ps ≠ []) (h4 : ps.length ≤ 4096) : ∃ x k, b.pl.map shp = (Fo.cons x k .nil).flat (-1) 0 ∧ (Fo.cons x k .nil).depth ≤ 64 := by
 have hl := (z5s WfL.init h).2
 obtain ⟨toks, B, h1, h2, h3⟩ := zmn (B := initM) h ⟨rfl, rfl, fun t ht => (by cases ht), rfl, rfl, trivial, WfL.init⟩ (by rw [show lk0.pl.length = 0 from rfl]; omega)
 obtain ⟨B2, h5, h6⟩ := SimL.pops (pre := b.opn) (r := []) (by rw [List.append_nil]; exact h3)
 have hr : runM initM (toks ++ List.replicate b.opn.length tkC) = .inl B2 := by
  rw [h2]
  have := h5 []
  rw [List.append_nil] at this
  rw [this]
  rfl
 have hk : KindOk (toks ++ List.replicate b.opn.length tkC) := by
  intro x hx
  rcases List.mem_append.1 hx with hx | hx
  · exact h1 x hx
  · rw [List.eq_of_mem_replicate hx]
    exact .inr (.inl rfl)
 have hN : B2.nodes ≠ [] := by
  rw [h6.nodes]
  intro e
  have := congrArg List.length e
  rw [List.length_map, hl] at this
  exact h0 (List.eq_nil_of_length_eq_zero (by rw [show lk0.pl.length = 0 from rfl, List.length_nil] at this; omega))
 have hf := zmi 0 _ hk
 rw [hr] at hf
 unfold finM at hf
 simp only at hf
 rw [if_neg (by
  rintro (e | e)
  · exact e h6.inn
  · exact hN e)] at hf
 obtain ⟨x, k, g1, g2⟩ := zt3 hf.symm hN
 exact ⟨x, k, by rw [← h6.nodes, g1], g2⟩
def plOf (x : NodeM) : PlM := (x.parent, x.first, x.next)
theorem zgg : ∀ (F : Fo) (N : List NodeM) (p : Int) (n : Nat), N.map plOf = (F.flat p n).map plOf → ∃ G : Fo, G.flat p n = N ∧ G.isNil = F.isNil ∧ G.size = F.size ∧ G.depth = F.depth
 | .nil, N, p, n, h => by
   have : N = [] := by
    have := congrArg List.length h
    rw [List.length_map, List.length_map] at this
    exact List.eq_nil_of_length_eq_zero this
   exact ⟨.nil, this.symm, rfl, rfl, rfl⟩
 | .cons x k r, [], p, n, h => by cases h
 | .cons x k r, y :: N, p, n, h => by
   rw [Fo.flat, List.map_cons, List.map_cons, List.cons.injEq, List.map_append] at h
   obtain ⟨h1, h2⟩ := h
   have hk : ((k.flat n (n + 1)).map plOf).length = k.size := by rw [List.length_map, Fo.flat_len]
   have h3 : (N.take k.size).map plOf = (k.flat n (n + 1)).map plOf := by
    rw [List.map_take, h2, ← hk, List.take_left]
   have h4 : (N.drop k.size).map plOf = (r.flat p (n + 1 + k.size)).map plOf := by
    rw [List.map_drop, h2, ← hk, List.drop_left]
   obtain ⟨K, a1, a2, a3, a4⟩ := zgg k _ _ _ h3
   obtain ⟨R, b1, b2, b3, b4⟩ := zgg r _ _ _ h4
   refine ⟨.cons y K R, ?_, rfl, ?_, ?_⟩
   · rw [Fo.flat, a3, a1, b1, List.take_append_drop]
     congr 1
     unfold plOf Fo.mk at h1
     simp only [Prod.mk.injEq] at h1
     unfold Fo.mk
     rw [a2, b2, a3]
     obtain ⟨e1, e2, e3⟩ := h1
     rw [← e1, ← e2, ← e3]
   · rw [Fo.size, Fo.size, a3, b3]
   · rw [Fo.depth, Fo.depth, a4, b4]
end Go.Proofs.YtncecbgpkoihpaaGreatDoor
namespace Go.Proofs.YtncecbgpkoihpaaGreatDoor
def okPl : List NodeM → List PlM → Bool
 | x :: N, y :: P => (z54 x && (decide (x.first = y.2.1) && decide (x.next = y.2.2))) && okPl N P
 | _, _ => true
def z0k (N : List NodeM) : Bool := decide (N.length ≠ 0) && (decide (N.length ≤ 4096) && match z2r lk0 (N.map (·.parent)) with
 | none => false
 | some b => okPl N b.pl)
theorem zhx : ∀ {N : List NodeM} {P : List PlM}, N.length = P.length → N.map (·.parent) = P.map (·.1) → okPl N P = true → P = N.map plOf ∧ ∀ x ∈ N, z54 x = true
 | [], [], _, _, _ => ⟨rfl, fun x hx => (by cases hx)⟩
 | [], _ :: _, h, _, _ => by cases h
 | _ :: _, [], h, _, _ => by cases h
 | x :: N, y :: P, h, hp, ho => by
   rw [okPl, Bool.and_eq_true, Bool.and_eq_true, Bool.and_eq_true, decide_eq_true_eq, decide_eq_true_eq] at ho
   obtain ⟨⟨h1, h2, h3⟩, h4⟩ := ho
   rw [List.map_cons, List.map_cons, List.cons.injEq] at hp
   obtain ⟨g1, g2⟩ := zhx (by simpa using h) hp.2 h4
   refine ⟨?_, ?_⟩
   · rw [List.map_cons, ← g1]
     congr 1
     unfold plOf
     rw [h2, h3, hp.1]
   · intro z hz
     rcases List.mem_cons.1 hz with rfl | hz
     · exact h1
     · exact g2 z hz
structure RightF (N : List NodeM) (x : NodeM) (k : Fo) : Prop where
 flat : (Fo.cons x k .nil).flat (-1) 0 = N
 depth : (Fo.cons x k .nil).depth ≤ 64
 len : N.length ≤ 4096
 plain : ∀ x ∈ N, z54 x = true
theorem z7l {N : List NodeM} (h : z0k N = true) : ∃ x k, RightF N x k := by
 unfold z0k at h
 rw [Bool.and_eq_true, Bool.and_eq_true, decide_eq_true_eq, decide_eq_true_eq] at h
 obtain ⟨h1, h2, h3⟩ := h
 cases hr : z2r lk0 (N.map (·.parent)) with
 | none => rw [hr] at h3; cases h3
 | some b =>
   rw [hr] at h3
   simp only at h3
   have hne : N.map (·.parent) ≠ [] := fun e => h1 (by have := congrArg List.length e; simpa using this)
   obtain ⟨x, k, g1, g2⟩ := zti hr hne (by rw [List.length_map]; exact h2)
   have hl := (z5s WfL.init hr).2
   rw [List.length_map, show lk0.pl.length = 0 from rfl, Nat.zero_add] at hl
   have hp := zeq hr
   rw [show lk0.pl.map (·.1) = [] from rfl, List.nil_append] at hp
   obtain ⟨k1, k2⟩ := zhx hl.symm hp.symm h3
   have hm : N.map plOf = ((Fo.cons x k .nil).flat (-1) 0).map plOf := by
    rw [← g1, List.map_map, ← k1]
    have : (plOf ∘ shp) = id := rfl
    rw [this, List.map_id]
   obtain ⟨G, c1, c2, c3, c4⟩ := zgg _ N (-1) 0 hm
   cases G with
   | nil => cases c2
   | cons y K R =>
     have hR : R = .nil := by
      cases R with
      | nil => rfl
      | cons z k2 r2 =>
        exfalso
        have e1 := congrArg (fun l => l.head?.map (·.next)) c1
        have e2 := congrArg (fun l => l.head?) hm
        rw [← c1] at e2
        simp only [Fo.flat, List.map_cons, List.head?_cons, Option.some.injEq] at e2
        unfold plOf Fo.mk at e2
        simp only [Prod.mk.injEq] at e2
        have := e2.2.2
        simp only [Fo.isNil, if_true, Bool.false_eq_true, if_false] at this
        omega
     subst hR
     exact ⟨y, K, c1, by omega, h2, k2⟩
end Go.Proofs.YtncecbgpkoihpaaGreatDoor
namespace Go.Proofs.YtncecbgpkoihpaaGreatDoor
open Go.Lib
theorem z8n {n : List UInt8} {r : List UInt8 × List UInt8} (h : z0a n = some r) : n.length ≤ 64 ∧ (z0q n = true ∨ ∃ a b, n = a ++ 58 :: b ∧ z0q a = true ∧ z0q b = true) := by
 unfold z0a at h
 split at h
 · cases h
 · rename_i h64
   refine ⟨by omega, ?_⟩
   split at h
   · rename_i hm
     split at h
     · rename_i hp
       obtain ⟨h1, h2⟩ := zcb hm
       refine .inr ⟨_, _, ?_, hp.1, hp.2⟩
       have := zc0 h1
       rw [h2] at this
       exact this
     · cases h
   · split at h
     · rename_i hp; exact .inl hp
     · cases h
theorem z8o {n : List UInt8} (h : z0q n = true) : ∃ c t, n = c :: t ∧ isF c = true := by
 obtain ⟨h1, h2⟩ := (z5y n).1 h
 cases n with
 | nil => simp [lenN] at h1
 | cons c t =>
   rw [z1x] at h1
   split at h1
   · exact ⟨c, t, rfl, by assumption⟩
   · omega
theorem z3o {n : List UInt8} {r : List UInt8 × List UInt8} (h : z0a n = some r) : ∃ c t, n = c :: t ∧ isF c = true := by
 rcases (z8n h).2 with h1 | ⟨a, b, rfl, h1, h2⟩
 · exact z8o h1
 · obtain ⟨c, t, rfl, hc⟩ := z8o h1
   exact ⟨c, _, rfl, hc⟩
theorem z8p {n : List UInt8} {r : List UInt8 × List UInt8} (h : z0a n = some r) : ∀ b ∈ n, isL b = true ∨ b = 58 := by
 intro b hb
 rcases (z8n h).2 with h1 | ⟨a, c, rfl, h1, h2⟩
 · exact .inl (z34 h1 hb)
 · rcases List.mem_append.1 hb with hb | hb
   · exact .inl (z34 h1 hb)
   · rcases List.mem_cons.1 hb with hb | hb
     · exact .inr hb
     · exact .inl (z34 h2 hb)
theorem zqb {c : UInt8} (h : isF c = true) : z1a c = false ∧ c ≠ 62 ∧ c ≠ 47 ∧ c ≠ 33 ∧ c ≠ 63 := by
 refine ⟨?_, ?_, ?_, ?_, ?_⟩
 · cases hb : z1a c with
   | false => rfl
   | true =>
     have := (za0 hb).1
     rw [z7z h] at this
     cases this
 all_goals (rintro rfl; revert h; decide)
theorem zer {b : UInt8} (h : isL b = true ∨ b = 58) : 32 ≤ b.toNat ∧ b.toNat < 128 := by
 rcases h with h | rfl
 · unfold isL isF at h
   simp only [Bool.or_eq_true, Bool.and_eq_true, decide_eq_true_eq] at h
   omega
 · decide
theorem z5t : ∀ {l : List UInt8}, (∀ b ∈ l, 32 ≤ b.toNat ∧ b.toNat < 128) → IsU l
 | [], _ => .nil
 | b :: t, h => by
   have hb := h b (by simp)
   have h1 : encodeRune (b.toNat : Int) = [b] := by
    have : ∀ n : Fin 128, encodeRune ((n.val : Nat) : Int) = [n.val.toUInt8] := by decide
    have h3 := this ⟨b.toNat, hb.2⟩
    simp only at h3
    rw [h3]
    congr 1
    exact UInt8.toNat_inj.1 (by simp [Nat.toUInt8])
   have h2 : isC (b.toNat : Int) = true := by
    unfold isC
    simp only [decide_eq_true_eq]
    omega
   have := IsU.cons h2 (z5t (l := t) (fun c hc => h c (by simp [hc])))
   rw [h1] at this
   exact this
theorem z23 {b : UInt8} {l : List UInt8} (h1 : 32 ≤ b.toNat) (h2 : b.toNat < 128) (h : IsU l) : IsU (b :: l) :=
 (z5t (l := [b]) (by intro c hc; simp at hc; subst hc; exact ⟨h1, h2⟩)).append h
theorem zs6 {attr : Bool} {b : UInt8} : b.toNat < 128 → (∀ x ∈ escL attr b, 32 ≤ x.toNat ∧ x.toNat < 128) ∨ escL attr b = [b] := by
 intro _
 unfold escL
 repeat' split
 all_goals first
  | exact .inr rfl
  | (left; intro x hx; simp only [List.mem_cons, List.not_mem_nil, or_false] at hx; rcases hx with rfl | rfl | rfl | rfl | rfl | rfl <;> decide)
  | (left; intro x hx; simp only [List.mem_cons, List.not_mem_nil, or_false] at hx; rcases hx with rfl | rfl | rfl | rfl | rfl <;> decide)
  | (left; intro x hx; simp only [List.mem_cons, List.not_mem_nil, or_false] at hx; rcases hx with rfl | rfl | rfl | rfl <;> decide)
theorem zmo {c : Int} (h : isC c = true) (hc : c < 128) : ∃ b : UInt8, encodeRune c = [b] ∧ b.toNat < 128 := by
 have h0 : 0 ≤ c := by
  unfold isC at h
  simp only [decide_eq_true_eq] at h
  omega
 have : ∀ n : Nat, n < 128 → ∃ b : UInt8, encodeRune (n : Int) = [b] ∧ b.toNat < 128 := fun n hn => ⟨n.toUInt8, by
  have : ∀ n : Fin 128, encodeRune ((n.val : Nat) : Int) = [n.val.toUInt8] := by decide
  exact this ⟨n, hn⟩, by simp [Nat.toUInt8]; omega⟩
 have h1 := this c.toNat (by omega)
 rwa [Int.toNat_of_nonneg h0] at h1
theorem zpo (attr : Bool) (a b : List UInt8) : encL attr (a ++ b) = encL attr a ++ encL attr b := by simp [encL]
theorem zhy (attr : Bool) {l : List UInt8} (h : IsU l) : IsU (encL attr l) := by
 induction h with
 | nil => exact .nil
 | @cons c l hc _ ih =>
   rw [zpo]
   refine IsU.append ?_ ih
   by_cases h128 : c < 128
   · obtain ⟨b, hb, hb2⟩ := zmo hc h128
     rw [hb]
     have : encL attr [b] = escL attr b := by simp [encL]
     rw [this]
     rcases zs6 (attr := attr) hb2 with h | h
     · exact z5t h
     · rw [h, ← hb]
       have := IsU.cons hc .nil
       rwa [List.append_nil] at this
   · rw [zc2 (z7v hc (by omega))]
     have := IsU.cons hc .nil
     rwa [List.append_nil] at this
theorem zbj {c : UInt8} {t : List UInt8} (h : z1a c = false) : nB (c :: t) = 0 := by rw [zg0, if_neg (by rw [h]; decide)]
theorem zmp {n t : List UInt8} {c : UInt8} : (n ++ c :: t)[n.length]? = some c := by simp
theorem zcn {n t : List UInt8} {k : Nat} : (n ++ t).drop (n.length + k) = t.drop k := by rw [← List.drop_drop, List.drop_left]
theorem zmq {n v rest : List UInt8} {r : List UInt8 × List UInt8} (hn : z0a n = some r) (h34 : (34 : UInt8) ∉ v) (h60 : (60 : UInt8) ∉ v) :
 z1h (n ++ 61 :: 34 :: (v ++ 34 :: rest)) = some (⟨n, v, n.length + 2⟩, n.length + v.length + 3) := by
 have hb : z01 (n ++ 61 :: 34 :: (v ++ 34 :: rest)) = n.length := z6i hn (by decide) (by decide)
 have hd : (n ++ 61 :: 34 :: (v ++ 34 :: rest)).drop n.length = 61 :: 34 :: (v ++ 34 :: rest) := List.drop_left
 have hn0 : nB (61 :: 34 :: (v ++ 34 :: rest)) = 0 := zbj (by decide)
 have hd1 : (n ++ 61 :: 34 :: (v ++ 34 :: rest)).drop (n.length + 1) = 34 :: (v ++ 34 :: rest) := by rw [zcn]; rfl
 have hn1 : nB (34 :: (v ++ 34 :: rest)) = 0 := zbj (by decide)
 have hm : z27 (n ++ 61 :: 34 :: (v ++ 34 :: rest)) = n.length + 1 := by
  unfold z27
  rw [hb, hd, hn0, Nat.add_zero, hd1, hn1]
 have htw : (v ++ 34 :: rest).takeWhile (· != 34) = v := by
  rw [List.takeWhile_append_of_pos (fun a ha => by simp only [bne_iff_ne, ne_eq]; intro e; exact h34 (e ▸ ha)), List.takeWhile_cons, if_neg (by decide), List.append_nil]
 have hpos : 0 < n.length := by
  obtain ⟨c, t, rfl, _⟩ := z3o hn
  simp
 refine attrP_iff.2 ⟨34, v ++ 34 :: rest, by rw [hb]; exact hpos, ?_, by rw [hm, hd1], .inl rfl, by simp, by rw [htw]; exact h60, ?_, ?_⟩
 · rw [hb, hd, hn0, Nat.add_zero]; exact zmp
 · rw [hb, htw, hm, List.take_left]
 · rw [htw, hm]; omega
def putA (l : List (List UInt8 × List UInt8)) : List UInt8 := l.flatMap fun p => 32 :: (p.1 ++ 61 :: 34 :: (encL true p.2 ++ [34]))
theorem z4d (p : List UInt8 × List UInt8) (l : List (List UInt8 × List UInt8)) : putA (p :: l) = 32 :: (p.1 ++ 61 :: 34 :: (encL true p.2 ++ [34])) ++ putA l := by simp [putA]
def z8q (p : List UInt8 × List UInt8) : Prop := (z0a p.1).isSome = true ∧ (z0g p.2).2 = 0
def endB (kind : Nat) : List UInt8 := if kind = 3 then [47, 62] else [62]
theorem zes {kind : Nat} (hk : kind = 1 ∨ kind = 3) (m : List UInt8) : ∀ (l : List (List UInt8 × List UInt8)) (at_ : Nat) (acc : List RawA), (∀ p ∈ l, z8q p) →
 ∃ more, z2o (putA l ++ (endB kind ++ m)) at_ acc = some (kind, acc ++ more, at_ + (putA l).length + (endB kind).length) ∧ z1e more = .inl l
 | [], at_, acc, _ => by
   refine ⟨[], ?_, rfl⟩
   rcases hk with rfl | rfl
   · have h1 : nB ((62 : UInt8) :: m) = 0 := zbj (by decide)
     show z2o (62 :: m) at_ acc = _
     rw [z12, h1, if_pos (by rfl)]
     simp [putA, endB]
   · have h1 : nB ((47 : UInt8) :: 62 :: m) = 0 := zbj (by decide)
     show z2o (47 :: 62 :: m) at_ acc = _
     rw [z12, h1, if_neg (by simp), if_pos ⟨rfl, rfl⟩]
     simp [putA, endB]
 | p :: l, at_, acc, h => by
   obtain ⟨h1, h2⟩ := h p (by simp)
   obtain ⟨r, hr⟩ := Option.isSome_iff_exists.1 h1
   obtain ⟨c, t, hct, hF⟩ := z3o hr
   obtain ⟨f1, f2, f3, -⟩ := zqb hF
   have hU := (z1q p.2).1 h2
   have h34 : (34 : UInt8) ∉ encL true p.2 := fun e => by have := zc1 e; revert this; decide
   have h60 : (60 : UInt8) ∉ encL true p.2 := fun e => by have := zc1 e; revert this; decide
   obtain ⟨more, g1, g2⟩ := zes hk m l (at_ + 1 + (p.1.length + (encL true p.2).length + 3)) (acc ++ [⟨p.1, encL true p.2, at_ + 1 + (p.1.length + 2)⟩]) (fun q hq => h q (by simp [hq]))
   refine ⟨⟨p.1, encL true p.2, at_ + 1 + (p.1.length + 2)⟩ :: more, ?_, ?_⟩
   · have hl : putA (p :: l) ++ (endB kind ++ m) = 32 :: (p.1 ++ 61 :: 34 :: (encL true p.2 ++ 34 :: (putA l ++ (endB kind ++ m)))) := by
      rw [z4d]; simp
     have hnb : nB (32 :: (p.1 ++ 61 :: 34 :: (encL true p.2 ++ 34 :: (putA l ++ (endB kind ++ m))))) = 1 := by
      rw [zg0, if_pos (by decide), hct, List.cons_append, zbj f1]
     have hg : (32 :: (p.1 ++ 61 :: 34 :: (encL true p.2 ++ 34 :: (putA l ++ (endB kind ++ m)))))[1]? = some c := by rw [hct]; rfl
     rw [hl, z12, hnb, hg, if_neg (by simpa using f2), if_neg (by simp [f3]), if_neg (by simp), List.drop_succ_cons, List.drop_zero, zmq hr h34 h60]
     simp only
     rw [show 1 + (p.1.length + (encL true p.2).length + 3) = (p.1.length + (encL true p.2).length + 3) + 1 from by omega, List.drop_succ_cons]
     have hd : (p.1 ++ 61 :: 34 :: (encL true p.2 ++ 34 :: (putA l ++ (endB kind ++ m)))).drop (p.1.length + (encL true p.2).length + 3) = putA l ++ (endB kind ++ m) := by
      rw [Nat.add_assoc, zcn, show (encL true p.2).length + 3 = (encL true p.2).length + 1 + 2 from rfl, List.drop_succ_cons, List.drop_succ_cons, zcn]
      rfl
     rw [hd, g1, z4d]
     simp only [List.append_assoc, List.singleton_append, List.length_append, List.length_cons, List.length_nil, Option.some.injEq, Prod.mk.injEq, true_and]
     omega
   · rw [z1e]
     simp only
     have hde := (zkx true hU).done
     rw [hde, if_neg (by simp), g2]
structure PartM where
 kind : Int
 name : List UInt8
 attrs : List (List UInt8 × List UInt8)
 text : List UInt8
 remark : Bool
theorem zhz {kind : Nat} (hk : kind = 1 ∨ kind = 3) {n : List UInt8} (hn : (z0a n).isSome = true) {l : List (List UInt8 × List UInt8)} (hl : ∀ p ∈ l, z8q p) (h32 : l.length ≤ 32) (m : List UInt8) :
 tagR (60 :: (n ++ (putA l ++ (endB kind ++ m)))) = .inl (kind, n, l, 1 + n.length + (putA l).length + (endB kind).length) := by
 obtain ⟨r, hr⟩ := Option.isSome_iff_exists.1 hn
 obtain ⟨c, t, hct, hF⟩ := z3o hr
 obtain ⟨f1, f2, f3, -⟩ := zqb hF
 obtain ⟨more, g1, g2⟩ := zes hk m l (1 + n.length) [] hl
 have hg : (60 :: (n ++ (putA l ++ (endB kind ++ m))))[1]? = some c := by rw [hct]; rfl
 have hX : ∃ b X, putA l ++ (endB kind ++ m) = b :: X ∧ isL b = false ∧ b ≠ 58 := by
  cases l with
  | nil => rcases hk with rfl | rfl
           · exact ⟨62, m, rfl, by decide, by decide⟩
           · exact ⟨47, 62 :: m, rfl, by decide, by decide⟩
  | cons p l => exact ⟨32, _, by rw [z4d]; rfl, by decide, by decide⟩
 have hb : z01 (n ++ (putA l ++ (endB kind ++ m))) = n.length := by
  obtain ⟨b, X, hX, h1, h2⟩ := hX
  rw [hX]
  exact z6i hr h1 h2
 have hnl : n.length ≠ 0 := by rw [hct]; simp
 have hd : (60 :: (n ++ (putA l ++ (endB kind ++ m)))).drop (1 + n.length) = putA l ++ (endB kind ++ m) := by
  rw [Nat.add_comm, List.drop_succ_cons, List.drop_left]
 unfold tagR
 rw [z81, hg, if_neg (by simpa using f3), List.drop_succ_cons, List.drop_zero, hb, if_neg hnl, hd, g1]
 simp only [List.nil_append]
 rw [g2]
 simp only
 rw [if_neg (by omega), List.take_left]
theorem zmr {n : List UInt8} (hn : (z0a n).isSome = true) (m : List UInt8) : tagR (60 :: 47 :: (n ++ 62 :: m)) = .inl (2, n, [], 3 + n.length) := by
 obtain ⟨r, hr⟩ := Option.isSome_iff_exists.1 hn
 obtain ⟨c, t, hct, hF⟩ := z3o hr
 have hnl : n.length ≠ 0 := by rw [hct]; simp
 have hd2 : (60 :: 47 :: (n ++ 62 :: m)).drop 2 = n ++ 62 :: m := rfl
 have hb : z01 (n ++ 62 :: m) = n.length := z6i hr (by decide) (by decide)
 have hd : (60 :: 47 :: (n ++ 62 :: m)).drop (2 + n.length) = 62 :: m := by
  rw [Nat.add_comm, List.drop_succ_cons, List.drop_succ_cons, List.drop_left]
 have hg : (60 :: 47 :: (n ++ 62 :: m))[2 + n.length]? = some 62 := by
  rw [Nat.add_comm, List.getElem?_cons_succ, List.getElem?_cons_succ]; exact zmp
 unfold tagR
 rw [z81, if_pos (by rfl), hd2, hb, hd, zbj (by decide), Nat.add_zero, hg, if_neg (by simp [hnl]), List.take_left]
 simp only [z1e, List.length_nil]
 rw [if_neg (by omega)]
 simp only [Sum.inl.injEq, Prod.mk.injEq, true_and]
 omega
theorem zpp (attr : Bool) (b : UInt8) : (escL attr b).length ≤ 6 := by
 unfold escL
 repeat' split
 all_goals simp
theorem zi0 (attr : Bool) (l : List UInt8) : (encL attr l).length ≤ 6 * l.length := by
 induction l with
 | nil => simp [encL]
 | cons b l ih =>
   unfold encL at ih ⊢
   rw [List.flatMap_cons, List.length_append, List.length_cons]
   have := zpp attr b
   omega
end Go.Proofs.YtncecbgpkoihpaaGreatDoor
namespace Go.Proofs.YtncecbgpkoihpaaGreatDoor
def nmL (x : NodeM) : List UInt8 := x.name.data.toList
def txL (x : NodeM) : List UInt8 := x.text.data.toList
def atL (x : NodeM) : List (List UInt8 × List UInt8) := x.attrs.map fun a => (a.1.data.toList, a.2.data.toList)
def bare (x : NodeM) (k : Fo) : Prop := x.text.size = 0 ∧ k.isNil = true
instance (x : NodeM) (k : Fo) : Decidable (bare x k) := inferInstanceAs (Decidable (_ ∧ _))
def Fo.wr : Fo → List UInt8
 | .nil => []
 | .cons x k r => 60 :: (nmL x ++ (putA (atL x) ++ (if bare x k then [47, 62] else 62 :: (encL false (txL x) ++ (k.wr ++ (60 :: 47 :: (nmL x ++ [62]))))))) ++ r.wr
def IsT : Fo → List Tok → Prop
 | .nil, T => T = []
 | .cons x k r, T => ∃ a b c Tk Tr, IsT k Tk ∧ IsT r Tr ∧ T = (if bare x k then [⟨3, nmL x, atL x, [], a⟩] else
  ⟨1, nmL x, atL x, [], a⟩ :: ((if x.text.size = 0 then [] else [⟨4, [], [], txL x, b⟩]) ++ (Tk ++ [⟨2, nmL x, [], [], c⟩]))) ++ Tr
def Fo.all (P : NodeM → Prop) : Fo → Prop
 | .nil => True
 | .cons x k r => P x ∧ k.all P ∧ r.all P
structure Good (x : NodeM) : Prop where
 name : (z0a (nmL x)).isSome = true
 attrs : ∀ p ∈ atL x, z8q p
 few : x.attrs.length ≤ 32
 sorted : x.attrs.Pairwise ltA
 text : (z0g (txL x)).2 = 0
 blank : x.text.size = 0 ∨ z3f x.text = false
theorem zi1 : ∀ {l : List (List UInt8 × List UInt8)}, (∀ p ∈ l, z8q p) → IsU (putA l)
 | [], _ => .nil
 | q :: l, h => by
   rw [z4d]
   obtain ⟨h1, h2⟩ := h q (by simp)
   obtain ⟨r, hr⟩ := Option.isSome_iff_exists.1 h1
   refine IsU.append (z23 (by decide) (by decide) ?_) (zi1 (fun p hp => h p (by simp [hp])))
   exact (z5t (fun b hb => zer (z8p hr b hb))).append (z23 (by decide) (by decide) (z23 (by decide) (by decide)
    ((zhy true ((z1q _).1 h2)).append (z23 (by decide) (by decide) .nil))))
theorem zms : ∀ {F : Fo}, F.all Good → IsU F.wr
 | .nil, _ => .nil
 | .cons x k r, h => by
   obtain ⟨h1, h2, h3⟩ := h
   obtain ⟨s, hs⟩ := Option.isSome_iff_exists.1 h1.name
   have hU := z5t (fun b hb => zer (z8p hs b hb))
   refine IsU.append (z23 (by decide) (by decide) (hU.append ((zi1 h1.attrs).append ?_))) (zms h3)
   split
   · exact z23 (by decide) (by decide) (z23 (by decide) (by decide) .nil)
   · exact z23 (by decide) (by decide) ((zhy false ((z1q _).1 h1.text)).append ((zms h2).append (z23 (by decide) (by decide) (z23 (by decide) (by decide) (hU.append (z23 (by decide) (by decide) .nil))))))
theorem zgh {y : List UInt8} {kind : Nat} {name : List UInt8} {vs : List (List UInt8 × List UInt8)} {k : Nat} (h1 : y.head? = some 60) (h2 : tagR y = .inl (kind, name, vs, k)) : z05 y = 0 := by
 obtain ⟨-, -, -, -, -, -, c, hc, hcc⟩ := z6k h2
 exact zg1 hc hcc
theorem zs7 : ∀ (F : Fo) (m : List UInt8), (m = [] ∨ m.head? = some 60) → F.wr ++ m = [] ∨ (F.wr ++ m).head? = some 60
 | .nil, m, h => h
 | .cons x k r, m, _ => .inr rfl
theorem zmt (x : NodeM) : (atL x).length = x.attrs.length := by unfold atL; rw [List.length_map]
theorem zt4 {attr : Bool} : ∀ {l : List UInt8}, l ≠ [] → encL attr l ≠ []
 | [], h => absurd rfl h
 | b :: l, _ => by
   have e : encL attr (b :: l) = escL attr b ++ encL attr l := by simp [encL]
   rw [e]
   intro h
   have := (List.append_eq_nil_iff.1 h).1
   have h1 : escL attr b ≠ [] := by
    unfold escL
    repeat' split
    all_goals simp
   exact h1 this
theorem zco : ∀ (F : Fo), F.all Good → ∀ (a : Nat) (acc : List Tok) (m : List UInt8), (m = [] ∨ m.head? = some 60) → ∃ T, IsT F T ∧ tokS (F.wr ++ m) a acc = tokS m (a + F.wr.length) (acc ++ T)
 | .nil, _, a, acc, m, _ => ⟨[], rfl, by rw [List.append_nil]; rfl⟩
 | .cons x k r, ⟨h1, h2, h3⟩, a, acc, m, hm => by
   have h32 : (atL x).length ≤ 32 := by rw [zmt]; exact h1.few
   by_cases hb : bare x k
   · have ho := zhz (kind := 3) (.inr rfl) h1.name h1.attrs h32 (r.wr ++ m)
     have e : (Fo.cons x k r).wr ++ m = 60 :: (nmL x ++ (putA (atL x) ++ (endB 3 ++ (r.wr ++ m)))) := by
      rw [Fo.wr, if_pos hb]
      simp [endB]
     obtain ⟨T, g1, g2⟩ := zco r h3 (a + (1 + (nmL x).length + (putA (atL x)).length + (endB 3).length)) (acc ++ [⟨3, nmL x, atL x, [], a⟩]) m hm
     refine ⟨[⟨3, nmL x, atL x, [], a⟩] ++ T, ⟨a, 0, 0, [], T, ?_, g1, by rw [if_pos hb]⟩, ?_⟩
     · have := hb.2
       cases k with
       | nil => rfl
       | cons _ _ _ => cases this
     · have hh : (60 :: (nmL x ++ (putA (atL x) ++ (endB 3 ++ (r.wr ++ m))))).head? = some 60 := rfl
       have hd : (60 :: (nmL x ++ (putA (atL x) ++ (endB 3 ++ (r.wr ++ m))))).drop (1 + (nmL x).length + (putA (atL x)).length + (endB 3).length) = r.wr ++ m := by
        rw [show 1 + (nmL x).length + (putA (atL x)).length + (endB 3).length = (60 :: (nmL x ++ (putA (atL x) ++ endB 3))).length from by simp; omega,
         show 60 :: (nmL x ++ (putA (atL x) ++ (endB 3 ++ (r.wr ++ m)))) = (60 :: (nmL x ++ (putA (atL x) ++ endB 3))) ++ (r.wr ++ m) from by simp, List.drop_left]
       rw [e, z2h hh (zgh hh ho), ho]
       simp only
       rw [hd, g2, List.append_assoc]
       congr 1
       rw [Fo.wr, if_pos hb]
       simp [endB]
       omega
   · have ho := zhz (kind := 1) (.inl rfl) h1.name h1.attrs h32 (encL false (txL x) ++ (k.wr ++ (60 :: 47 :: (nmL x ++ 62 :: (r.wr ++ m)))))
     have hc := zmr h1.name (r.wr ++ m)
     have e : (Fo.cons x k r).wr ++ m = 60 :: (nmL x ++ (putA (atL x) ++ (endB 1 ++ (encL false (txL x) ++ (k.wr ++ (60 :: 47 :: (nmL x ++ 62 :: (r.wr ++ m)))))))) := by
      rw [Fo.wr, if_neg hb]
      simp [endB]
     obtain ⟨n1, hn1⟩ : ∃ n1, a + (1 + (nmL x).length + (putA (atL x)).length + (endB 1).length) = n1 := ⟨_, rfl⟩
     have hX : (k.wr ++ (60 :: 47 :: (nmL x ++ 62 :: (r.wr ++ m)))).head? = some 60 := by
      rcases zs7 k (60 :: 47 :: (nmL x ++ 62 :: (r.wr ++ m))) (.inr rfl) with h | h
      · have := (List.append_eq_nil_iff.1 h).2; cases this
      · exact h
     have hh : (60 :: (nmL x ++ (putA (atL x) ++ (endB 1 ++ (encL false (txL x) ++ (k.wr ++ (60 :: 47 :: (nmL x ++ 62 :: (r.wr ++ m))))))))).head? = some 60 := rfl
     have hd : (60 :: (nmL x ++ (putA (atL x) ++ (endB 1 ++ (encL false (txL x) ++ (k.wr ++ (60 :: 47 :: (nmL x ++ 62 :: (r.wr ++ m))))))))).drop (1 + (nmL x).length + (putA (atL x)).length + (endB 1).length) = encL false (txL x) ++ (k.wr ++ (60 :: 47 :: (nmL x ++ 62 :: (r.wr ++ m)))) := by
      rw [show 1 + (nmL x).length + (putA (atL x)).length + (endB 1).length = (60 :: (nmL x ++ (putA (atL x) ++ endB 1))).length from by simp; omega,
       show 60 :: (nmL x ++ (putA (atL x) ++ (endB 1 ++ (encL false (txL x) ++ (k.wr ++ (60 :: 47 :: (nmL x ++ 62 :: (r.wr ++ m)))))))) = (60 :: (nmL x ++ (putA (atL x) ++ endB 1))) ++ (encL false (txL x) ++ (k.wr ++ (60 :: 47 :: (nmL x ++ 62 :: (r.wr ++ m))))) from by simp, List.drop_left]
     have hhc : (60 :: 47 :: (nmL x ++ 62 :: (r.wr ++ m))).head? = some 60 := rfl
     have hdc : (60 :: 47 :: (nmL x ++ 62 :: (r.wr ++ m))).drop (3 + (nmL x).length) = r.wr ++ m := by
      rw [show 3 + (nmL x).length = (60 :: 47 :: (nmL x ++ [62])).length from by simp; omega, show 60 :: 47 :: (nmL x ++ 62 :: (r.wr ++ m)) = (60 :: 47 :: (nmL x ++ [62])) ++ (r.wr ++ m) from by simp, List.drop_left]
     have htext : ∃ b, tokS (encL false (txL x) ++ (k.wr ++ (60 :: 47 :: (nmL x ++ 62 :: (r.wr ++ m))))) n1 (acc ++ [⟨1, nmL x, atL x, [], a⟩]) =
      tokS (k.wr ++ (60 :: 47 :: (nmL x ++ 62 :: (r.wr ++ m)))) (n1 + (encL false (txL x)).length) (acc ++ ([⟨1, nmL x, atL x, [], a⟩] ++ if x.text.size = 0 then [] else [⟨4, [], [], txL x, b⟩])) := by
      by_cases hz : x.text.size = 0
      · refine ⟨0, ?_⟩
        have : txL x = [] := List.eq_nil_of_length_eq_zero (by unfold txL; rw [Array.length_toList]; exact hz)
        rw [this, if_pos hz, List.append_nil]
        rfl
      · refine ⟨n1, ?_⟩
        have hne : txL x ≠ [] := fun e => hz (by have := congrArg List.length e; unfold txL at this; rw [Array.length_toList] at this; exact this)
        have w1 : encL false (txL x) ≠ [] := zt4 hne
        have w2 : (60 : UInt8) ∉ encL false (txL x) := fun e => by have := zc1 e; revert this; decide
        have w3 : z04 (encL false (txL x)) = (txL x, 0, 0) := (zkx false ((z1q _).1 h1.text)).done
        have hhd : (encL false (txL x) ++ (k.wr ++ (60 :: 47 :: (nmL x ++ 62 :: (r.wr ++ m))))).head? ≠ some 60 := by
         generalize encL false (txL x) = t at w1 w2
         cases t with
         | nil => exact absurd rfl w1
         | cons b t => simp only [List.cons_append, List.head?_cons, ne_eq, Option.some.injEq]; intro e; exact w2 (by simp [e])
        have htw : (encL false (txL x) ++ (k.wr ++ (60 :: 47 :: (nmL x ++ 62 :: (r.wr ++ m))))).takeWhile (· != 60) = encL false (txL x) := by
         rw [zp3 (.inr hX), z2g w2]
        rw [z5m (by simp [w1]) hhd, htw, w3, if_neg (by simp), List.drop_left, if_neg hz, List.append_assoc]
     obtain ⟨b, hb2⟩ := htext
     obtain ⟨Tk, k1, k2⟩ := zco k h2 (n1 + (encL false (txL x)).length) (acc ++ ([⟨1, nmL x, atL x, [], a⟩] ++ if x.text.size = 0 then [] else [⟨4, [], [], txL x, b⟩])) (60 :: 47 :: (nmL x ++ 62 :: (r.wr ++ m))) (.inr rfl)
     obtain ⟨n2, hn2⟩ : ∃ n2, n1 + (encL false (txL x)).length + k.wr.length = n2 := ⟨_, rfl⟩
     rw [hn2] at k2
     obtain ⟨Tr, r1, r2⟩ := zco r h3 (n2 + (3 + (nmL x).length)) (acc ++ ([⟨1, nmL x, atL x, [], a⟩] ++ if x.text.size = 0 then [] else [⟨4, [], [], txL x, b⟩]) ++ Tk ++ [⟨2, nmL x, [], [], n2⟩]) m hm
     refine ⟨_, ⟨a, b, n2, Tk, Tr, k1, r1, rfl⟩, ?_⟩
     rw [e, z2h hh (zgh hh ho), ho]
     simp only
     rw [hd, hn1, hb2, k2, z2h hhc (zgh hhc hc), hc]
     simp only
     rw [hdc, r2, if_neg hb]
     congr 1
     · rw [Fo.wr, if_neg hb, ← hn2, ← hn1]
       simp [endB]
       omega
     · simp
def z0f (x : NodeM) : NodeM := { x with at_ := 0 }
def Fo.app : Fo → Fo → Fo
 | .nil, G => G
 | .cons x k r, G => .cons x k (r.app G)
theorem z98 : ∀ (K : Fo) (y : NodeM) (k r : Fo), (K.snoc y k).app r = K.app (.cons y k r)
 | .nil, _, _, _ => rfl
 | .cons x k' K, y, k, r => by rw [Fo.snoc, Fo.app, z98 K, Fo.app]
theorem zmu : ∀ K : Fo, K.app .nil = K
 | .nil => rfl
 | .cons x k' K => by rw [Fo.app, zmu K]
theorem zgi (s : ByteArray) : bs s.data.toList = s := by
 unfold bs
 rw [Array.toArray_toList]
theorem zmv {x : NodeM} {t : Tok} (h : t.attrs = atL x) : z00 t = x.attrs := by
 unfold z00 atL at *
 rw [h, List.map_map]
 have : ((fun p : List UInt8 × List UInt8 => (bs p.1, bs p.2)) ∘ fun a : ByteArray × ByteArray => (a.1.data.toList, a.2.data.toList)) = id := by
  funext a
  simp only [Function.comp, zgi, id]
 rw [this, List.map_id]
theorem zmw {x : NodeM} {t : Tok} (hg : Good x) (h1 : t.name = nmL x) (h2 : t.attrs = atL x) (p : Int) : ¬ dupA (z00 t) ∧ newN t p = ⟨x.name, x.attrs, ⟨#[]⟩, p, -1, -1, t.at_⟩ := by
 have ha := zmv h2
 obtain ⟨s1, s2⟩ := zho hg.sorted (List.Perm.refl _)
 refine ⟨by rw [ha]; exact s2, ?_⟩
 unfold newN
 rw [ha, ← s1, h1]
 unfold nmL
 rw [zgi]
theorem zgj (l l' : List NodeM) (h : l.map z0f = l'.map z0f) (n : Nat) (k : Int) (m : Nat) : (z3u l n k m).map z0f = (z3u l' n k m).map z0f := by
 unfold z3u
 split
 · rw [z06 (g := z0f) (f' := fstN m) (fun _ => rfl), z06 (g := z0f) (f' := fstN m) (fun _ => rfl), h]
 · rw [z06 (g := z0f) (f' := nxtN m) (fun _ => rfl), z06 (g := z0f) (f' := nxtN m) (fun _ => rfl), h]
def zcp (h : NodeM) (p : Int) (n : Nat) (K : Fo) : List NodeM := Fo.mk h p n K .nil :: K.flat n (n + 1)
theorem zjg (h : NodeM) (p : Int) (n : Nat) (K : Fo) (z : NodeM) (k : Fo) : zcp h p n (K.snoc z k) = z3u (zcp h p n K) n (K.lastR (n + 1)) (n + 1 + K.size) ++ (Fo.cons z k .nil).flat n (n + 1 + K.size) := by
 unfold zcp
 rw [Fo.flat_snoc]
 rcases Fo.lastR_or K (n + 1) with ⟨k1, k2⟩ | ⟨k1, k2, k3⟩
 · cases K with
   | cons _ _ _ => cases k1
   | nil =>
     unfold z3u Fo.lnk
     rw [if_pos (by rfl), if_pos (by rfl)]
     rfl
 · have hm : Fo.mk h p n (K.snoc z k) .nil = Fo.mk h p n K .nil := by
    unfold Fo.mk
    rw [Fo.snoc_notNil, k1]
    rfl
   rw [hm]
   unfold z3u Fo.lnk
   rw [if_neg (by omega), if_neg (by omega)]
   obtain ⟨j, hj⟩ : ∃ j : Nat, K.lastR (n + 1) = ((n + 1 + j : Nat) : Int) := ⟨(K.lastR (n + 1) - ((n + 1 : Nat) : Int)).toNat, by omega⟩
   rw [hj, Int.toNat_natCast, show n + 1 + j - n = j + 1 from by omega, show n + 1 + j - (n + 1) = j from by omega, List.modify_succ_cons, List.cons_append]
theorem zi2 {x : NodeM} {k r : Fo} {T : List Tok} (h : IsT (.cons x k r) T) : ∃ t T', T = t :: T' ∧ t.name = nmL x ∧ t.attrs = atL x ∧ (t.kind = 1 ∨ t.kind = 3) := by
 obtain ⟨a, b, c, Tk, Tr, -, -, rfl⟩ := h
 split
 · exact ⟨_, _, rfl, rfl, rfl, .inr rfl⟩
 · exact ⟨_, _, rfl, rfl, rfl, .inl rfl⟩
theorem zi3 : ∀ K G : Fo, (K.app G).size = K.size + G.size
 | .nil, G => by rw [Fo.app, Fo.size]; omega
 | .cons x k r, G => by rw [Fo.app, Fo.size, zi3 r, Fo.size]; omega
theorem zet : ∀ K G : Fo, (K.app G).depth = max K.depth G.depth
 | .nil, G => by rw [Fo.app, Fo.depth]; omega
 | .cons x k r, G => by rw [Fo.app, Fo.depth, zet r, Fo.depth]; omega
def zqc (size f : Nat) (x : NodeM) (k : Fo) : Prop := ∀ T, IsT (.cons x k .nil) T → T.length < f → ∀ (rest : List Tok) (p : Int) (deep n : Nat), (Fo.cons x k .nil).depth + deep ≤ 65 → n + (Fo.cons x k .nil).size ≤ 4096 →
 ∃ sub, z4b size f (T ++ rest) p deep n = .inl (sub, rest) ∧ sub.map z0f = ((Fo.cons x k .nil).flat p n).map z0f
def zcq (Q : NodeM → Fo → Prop) : Fo → Prop
 | .nil => True
 | .cons y k r => Q y k ∧ zcq Q r
theorem zpq {x : NodeM} {k r : Fo} {T : List Tok} (h : IsT (.cons x k r) T) : ∃ T1 Tr, T = T1 ++ Tr ∧ IsT (.cons x k .nil) T1 ∧ IsT r Tr := by
 obtain ⟨a, b, c, Tk, Tr, h1, h2, rfl⟩ := h
 exact ⟨_, Tr, rfl, ⟨a, b, c, Tk, [], h1, rfl, by rw [List.append_nil]⟩, h2⟩
theorem zeu {size f n deep : Nat} {x : Tok} {h : NodeM} {p : Int} : ∀ (R K : Fo) (T : List Tok), IsT R T → T.length < f → zcq (zqc size f) R → ∀ (g : Nat) (acc : List NodeM) (text : ByteArray) (last : Int) (rest : List Tok), T.length < g →
 acc.map z0f = (zcp h p n K).map z0f → last = K.lastR (n + 1) → (K.app R).depth + (deep + 1) ≤ 65 → n + 1 + (K.app R).size ≤ 4096 →
 ∃ g' acc' last', g ≤ g' + T.length ∧ z4a (fun l m => z4b size f l n (deep + 1) m) x n size g (T ++ rest) acc text last = z4a (fun l m => z4b size f l n (deep + 1) m) x n size g' rest acc' text last' ∧ acc'.map z0f = (zcp h p n (K.app R)).map z0f
 | .nil, K, T, hT, _, _, g, acc, text, last, rest, _, ha, _, _, _ => by
   have hT : T = [] := hT
   subst hT
   exact ⟨g, acc, last, Nat.le_refl _, rfl, by rw [zmu]; exact ha⟩
 | .cons y k r, K, T, hT, hf, hq, 0, acc, text, last, rest, hg, _, _, _, _ => by omega
 | .cons y k r, K, T, hT, hf, hq, g + 1, acc, text, last, rest, hg, ha, hl, hd, hs => by
   obtain ⟨T1, Tr, rfl, h1, h2⟩ := zpq hT
   obtain ⟨q1, q2⟩ := hq
   obtain ⟨t, T', rfl, -, -, hk⟩ := zi2 h1
   rw [List.length_append] at hf hg
   have hd2 := hd
   have hs2 := hs
   rw [zet, Fo.depth] at hd2
   rw [zi3, Fo.size] at hs2
   have hal : acc.length = 1 + K.size := by
    have := congrArg List.length ha
    rw [List.length_map, List.length_map] at this
    rw [this, zcp, List.length_cons, Fo.flat_len]
    omega
   have ed : (Fo.cons y k .nil).depth = max (1 + k.depth) 0 := rfl
   have es : (Fo.cons y k .nil).size = 1 + k.size + 0 := rfl
   obtain ⟨sub, e1, e2⟩ := q1 _ h1 (by omega) (Tr ++ rest) n (deep + 1) (n + acc.length) (by omega) (by omega)
   have hstep : z4a (fun l m => z4b size f l n (deep + 1) m) x n size (g + 1) (t :: T' ++ Tr ++ rest) acc text last =
    z4a (fun l m => z4b size f l n (deep + 1) m) x n size g (Tr ++ rest) (z3u acc n last (n + acc.length) ++ sub) text ((n + acc.length : Nat) : Int) := by
    rw [List.append_assoc, List.cons_append, z4a, if_neg (by omega), if_neg (by omega)]
    rw [List.cons_append] at e1
    simp only [e1]
   have hm : (z3u acc n last (n + acc.length) ++ sub).map z0f = (zcp h p n (K.snoc y k)).map z0f := by
    rw [zjg, List.map_append, List.map_append, zgj _ _ ha, e2, hl, hal, show n + (1 + K.size) = n + 1 + K.size from by omega]
   obtain ⟨g', acc', last', c1, c2, c3⟩ := zeu r (K.snoc y k) Tr h2 (by omega) q2 g _ text ((n + acc.length : Nat) : Int) rest (by simp only [List.length_cons] at hg; omega) hm
    (by rw [Fo.lastR_snoc, hal]; congr 1; omega) (by rw [z98]; exact hd) (by rw [z98]; exact hs)
   refine ⟨g', acc', last', ?_, by rw [hstep, c2], by rw [← z98]; exact c3⟩
   rw [List.length_append, List.length_cons]
   omega
theorem zad {P : NodeM → Prop} {Q : NodeM → Fo → Prop} (h : ∀ y k, P y → k.all P → Q y k) : ∀ {R : Fo}, R.all P → zcq Q R
 | .nil, _ => trivial
 | .cons y k r, ⟨h1, h2, h3⟩ => ⟨h y k h1 h2, zad h h3⟩
theorem z7m {s : ByteArray} (h : s.size = 0) : s = ⟨#[]⟩ := ByteArray.ext (Array.size_eq_zero_iff.1 h)
theorem zmx (s : ByteArray) : (⟨#[]⟩ : ByteArray) ++ s = s := by
 refine ByteArray.ext ?_
 rw [ByteArray.data_append]
 simp
theorem zev {size : Nat} : ∀ (f : Nat) (x : NodeM) (k : Fo), Good x → k.all Good → zqc size f x k
 | 0, x, k, _, _ => fun T _ h => by omega
 | f + 1, x, k, hx, hk => by
   intro T hT hf rest p deep n hd hs
   obtain ⟨a, b, c, Tk, Tr, h1, h2, rfl⟩ := hT
   have h2 : Tr = [] := h2
   subst h2
   rw [List.append_nil] at hf ⊢
   have ed : (Fo.cons x k .nil).depth = max (1 + k.depth) 0 := rfl
   have es : (Fo.cons x k .nil).size = 1 + k.size + 0 := rfl
   by_cases hb : bare x k
   · rw [if_pos hb]
     obtain ⟨n1, n2⟩ := zmw (t := ⟨3, nmL x, atL x, [], a⟩) hx rfl rfl p
     refine ⟨[newN ⟨3, nmL x, atL x, [], a⟩ p], ?_, ?_⟩
     · rw [List.cons_append, z4b, if_neg n1, if_neg (by omega), if_pos rfl]
       rfl
     · rw [n2]
       cases k with
       | cons _ _ _ => exact absurd hb.2 (by simp [Fo.isNil])
       | nil =>
         have := z7m hb.1
         simp only [Fo.flat, Fo.mk, z0f, List.map_cons, List.append_nil, List.map_nil, Fo.isNil, if_true, this]
   · rw [if_neg hb] at hf ⊢
     obtain ⟨n1, n2⟩ := zmw (t := ⟨1, nmL x, atL x, [], a⟩) hx rfl rfl p
     rw [List.cons_append, z4b, if_neg n1, if_neg (by omega), if_neg (show ¬ ((1 : Nat) = 3) from by decide), List.append_assoc, List.append_assoc]
     have hlen : Tk.length + 1 < ((if x.text.size = 0 then [] else [⟨4, [], [], txL x, b⟩] : List Tok) ++ (Tk ++ (([⟨2, nmL x, [], [], c⟩] : List Tok) ++ rest))).length + 1 := by
      simp only [List.length_append, List.length_cons, List.length_nil]
      omega
     have hTf : Tk.length < f := by
      simp only [List.length_append, List.length_cons, List.length_nil] at hf
      omega
     generalize ((if x.text.size = 0 then [] else [⟨4, [], [], txL x, b⟩] : List Tok) ++ (Tk ++ (([⟨2, nmL x, [], [], c⟩] : List Tok) ++ rest))).length + 1 = g0 at *
     have htx : ∃ g1, Tk.length + 1 < g1 + 1 ∧ z4a (fun l m => z4b size f l n (deep + 1) m) ⟨1, nmL x, atL x, [], a⟩ n size g0 ((if x.text.size = 0 then [] else [⟨4, [], [], txL x, b⟩] : List Tok) ++ (Tk ++ (([⟨2, nmL x, [], [], c⟩] : List Tok) ++ rest))) [newN ⟨1, nmL x, atL x, [], a⟩ p] ⟨#[]⟩ (-1) =
      z4a (fun l m => z4b size f l n (deep + 1) m) ⟨1, nmL x, atL x, [], a⟩ n size g1 (Tk ++ (([⟨2, nmL x, [], [], c⟩] : List Tok) ++ rest)) [newN ⟨1, nmL x, atL x, [], a⟩ p] x.text (-1) := by
      by_cases hz : x.text.size = 0
      · rw [if_pos hz, z7m hz]
        exact ⟨g0, by omega, rfl⟩
      · rw [if_neg hz]
        obtain ⟨g1, rfl⟩ : ∃ g1, g0 = g1 + 1 := ⟨g0 - 1, by omega⟩
        refine ⟨g1, by omega, ?_⟩
        rw [List.singleton_append, z4a, if_neg (show ¬ ((4 : Nat) = 2) from by decide), if_pos rfl, zmx]
        unfold txL
        rw [zgi]
     obtain ⟨g1, hg1, htx⟩ := htx
     rw [htx]
     have hacc : ([newN ⟨1, nmL x, atL x, [], a⟩ p] : List NodeM).map z0f = (zcp { x with text := ⟨#[]⟩ } p n .nil).map z0f := by
      rw [n2]
      rfl
     obtain ⟨g2, acc, last, c1, c2, c3⟩ := zeu (size := size) (f := f) (n := n) (deep := deep) (x := ⟨1, nmL x, atL x, [], a⟩) (h := { x with text := ⟨#[]⟩ }) (p := p) k .nil Tk h1 hTf (zad (zev f) hk) g1 _ x.text (-1) (([⟨2, nmL x, [], [], c⟩] : List Tok) ++ rest) (by omega) hacc rfl
      (by show k.depth + _ ≤ _; omega) (by show n + 1 + k.size ≤ _; omega)
     rw [c2]
     have hka : (Fo.nil.app k) = k := rfl
     rw [hka] at c3
     cases g2 with
     | zero => omega
     | succ g2 =>
       refine ⟨z8m acc x.text, ?_, ?_⟩
       · rw [List.singleton_append, z4a, if_pos rfl, if_neg (fun h => h rfl)]
       · have hfl : (Fo.cons x k .nil).flat p n = zcp x p n k := by rw [Fo.flat, Fo.flat, List.append_nil]; rfl
         rw [hfl]
         unfold z8m
         rcases hx.blank with hz | hz
         · have he := z7m hz
           rw [if_pos (by rw [he]; rfl), c3]
           have : ({ x with text := ⟨#[]⟩ } : NodeM) = x := by rw [← he]
           rw [this]
         · rw [if_neg (by rw [hz]; decide), z06 (g := z0f) (f' := txtN x.text) (fun _ => rfl), c3]
           rfl
end Go.Proofs.YtncecbgpkoihpaaGreatDoor
