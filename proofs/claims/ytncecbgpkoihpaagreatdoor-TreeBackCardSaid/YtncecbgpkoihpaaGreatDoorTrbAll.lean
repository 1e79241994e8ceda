/- Tokens in plain Lean: what is cut is good (names, values, texts), and not much longer than the text. -/
import Derived.Test.YtncecbgpkoihpaaGreatDoorTrkAll
import Derived.Test.YtncecbgpkoihpaaGreatDoorTreGl
import Derived.Test.YtncecbgpkoihpaaGreatDoorTrlEf
import Derived.Test.YtncecbgpkoihpaaGreatDoorTreNo
import Derived.Test.YtncecbgpkoihpaaGreatDoorTrnAb
import Derived.Test.YtncecbgpkoihpaaGreatDoorTrsNs
import Derived.Test.YtncecbgpkoihpaaGreatDoorAwThr
namespace Go.Proofs.YtncecbgpkoihpaaGreatDoor
def z3d : List RawA → Nat
 | [] => 0
 | a :: l => a.name.length + a.value.length + z3d l
theorem zb6 : ∀ a b : List RawA, z3d (a ++ b) = z3d a + z3d b
 | [], b => by simp [z3d]
 | x :: a, b => by rw [List.cons_append, z3d, z3d, zb6 a b]; omega
def z0p : List (List UInt8 × List UInt8) → Nat
 | [] => 0
 | a :: l => a.1.length + a.2.length + z0p l
theorem zj0 {l : List UInt8} {a : RawA} {k : Nat} (h : z1h l = some (a, k)) : (z0a a.name).isSome = true ∧ a.name.length + a.value.length ≤ k := by
 unfold z1h at h
 split at h
 · cases h
 · rename_i h0
   split at h
   · cases h
   · split at h
     · simp only [Option.some.injEq, Prod.mk.injEq] at h
       obtain ⟨rfl, rfl⟩ := h
       obtain ⟨r, hr⟩ := z7c (l := l) (by omega)
       refine ⟨Option.isSome_iff_exists.2 ⟨r, hr⟩, ?_⟩
       simp only [List.length_take]
       unfold z27
       omega
     · cases h
theorem za3 : ∀ (f : Nat) (l : List UInt8) (at_ : Nat) (acc : List RawA) (kind : Nat) (ats : List RawA) (k : Nat), z5k f l at_ acc = some (kind, ats, k) → (∀ a ∈ acc, (z0a a.name).isSome = true) →
 (∀ a ∈ ats, (z0a a.name).isSome = true) ∧ z3d ats + at_ ≤ z3d acc + k
 | 0, _, _, _, _, _, _, h, _ => by cases h
 | f + 1, l, at_, acc, kind, ats, k, h, ha => by
   rw [z5k] at h
   split at h
   · cases h
     exact ⟨ha, by omega⟩
   · split at h
     · cases h
       exact ⟨ha, by omega⟩
     · split at h
       · cases h
       · split at h
         · cases h
         · rename_i a k2 hp
           obtain ⟨g1, g2⟩ := zj0 hp
           obtain ⟨c1, c2⟩ := za3 f _ _ _ _ _ _ h (fun x hx => by
            rcases List.mem_append.1 hx with hx | hx
            · exact ha x hx
            · rw [List.mem_singleton] at hx
              subst hx
              exact g1)
           refine ⟨c1, ?_⟩
           rw [zb6] at c2
           simp only [z3d] at c2
           omega
theorem zb7 : ∀ {l : List RawA} {r : List (List UInt8 × List UInt8)}, z1e l = .inl r → (∀ a ∈ l, (z0a a.name).isSome = true) → (∀ p ∈ r, z8q p) ∧ z0p r ≤ 4 * z3d l
 | [], r, h, _ => by cases h; exact ⟨fun p hp => (by cases hp), by simp [z0p]⟩
 | a :: l, r, h, ha => by
   rw [z1e] at h
   split at h
   · cases h
   · rename_i he
     have he : (z04 a.value).2.2 = 0 := Decidable.not_not.1 he
     have hd := z9s he
     have hl := zcf hd
     cases hr : z1e l with
     | inr x => rw [hr] at h; cases h
     | inl r2 =>
       rw [hr] at h
       cases h
       obtain ⟨g1, g2⟩ := zb7 hr (fun x hx => ha x (by simp [hx]))
       refine ⟨fun p hp => ?_, ?_⟩
       · rcases List.mem_cons.1 hp with rfl | hp
         · exact ⟨ha a (by simp), (z1q _).2 hd.isU⟩
         · exact g1 p hp
       · simp only [z0p, z3d]
         omega
structure TokG (t : Tok) : Prop where
 tag : t.kind ≠ 4 → (z0a t.name).isSome = true
 attrs : ∀ p ∈ t.attrs, z8q p
 few : t.attrs.length ≤ 32
 text : (z0g t.text).2 = 0
def wT (t : Tok) : Nat := t.name.length + t.text.length + z0p t.attrs
def sumW : List Tok → Nat
 | [] => 0
 | t :: l => wT t + sumW l
theorem zlm {l : List UInt8} {kind : Nat} {name : List UInt8} {vs : List (List UInt8 × List UInt8)} {k : Nat} (h : tagR l = .inl (kind, name, vs, k)) :
 (z0a name).isSome = true ∧ (∀ p ∈ vs, z8q p) ∧ name.length + z0p vs ≤ 4 * k := by
 have h32 := (z6k h).2.2.2.2.2.1
 unfold tagR at h
 cases ht : tagP l with
 | none => rw [ht] at h; cases h
 | some x =>
   obtain ⟨kd, nm, ats, k2⟩ := x
   rw [ht] at h
   simp only at h
   cases hr : z1e ats with
   | inr y => rw [hr] at h; cases h
   | inl vs2 =>
     rw [hr] at h
     simp only at h
     split at h
     · cases h
     · cases h
       have key : (z0a name).isSome = true ∧ (∀ a ∈ ats, (z0a a.name).isSome = true) ∧ name.length + z3d ats ≤ k := by
        unfold tagP at ht
        split at ht
        · split at ht
          · cases ht
          · rename_i h0
            cases ht
            obtain ⟨r, hr⟩ := z7c (l := l.drop 2) (by omega)
            refine ⟨Option.isSome_iff_exists.2 ⟨r, hr⟩, fun a ha => (by cases ha), ?_⟩
            simp only [List.length_take, z3d]
            omega
        · split at ht
          · cases ht
          · rename_i h0
            split at ht
            · cases ht
            · rename_i hp
              cases ht
              obtain ⟨r, hr⟩ := z7c (l := l.drop 1) (by omega)
              obtain ⟨c1, c2⟩ := za3 _ _ _ _ _ _ _ hp (fun a ha => (by cases ha))
              refine ⟨Option.isSome_iff_exists.2 ⟨r, hr⟩, c1, ?_⟩
              simp only [List.length_take]
              simp only [z3d] at c2
              omega
       obtain ⟨k1, k2, k3⟩ := key
       obtain ⟨g1, g2⟩ := zb7 hr k2
       exact ⟨k1, g1, by omega⟩
theorem zln : ∀ (l : List UInt8) (at_ : Nat) (acc : List Tok), (tokS l at_ acc).2.2 = 0 → ∃ more, (tokS l at_ acc).1 = acc ++ more ∧ (∀ t ∈ more, TokG t) ∧ sumW more ≤ 4 * l.length ∧ more.length ≤ l.length := by
 refine zg2 (fun at_ acc h => ?_) (fun l h0 h1 ih at_ acc h => ?_) (fun l h ih at_ acc h => ?_) (fun l p e h1 h2 h3 at_ acc h => ?_) (fun l kind name vs k h1 h2 h3 ih at_ acc h => ?_)
 · exact ⟨[], by simp [z92], fun t ht => (by cases ht), by simp [sumW], by simp⟩
 · have hp := z4t h0 h1
   have hle := z0v (· != 60) l
   rw [z5m h0 h1] at h ⊢
   by_cases he : (z04 (l.takeWhile (· != 60))).2.2 ≠ 0
   · rw [if_pos he] at h; exact absurd h he
   · rw [if_neg he] at h ⊢
     obtain ⟨more, g1, g2, g3, g4⟩ := ih _ _ h
     have hdec := z9s (Decidable.not_not.1 he)
     have hd := zcf hdec
     rw [List.length_drop] at g3 g4
     refine ⟨_ :: more, by rw [g1, List.append_assoc]; rfl, fun t ht => ?_, ?_, ?_⟩
     · rcases List.mem_cons.1 ht with rfl | ht
       · exact ⟨fun h => absurd rfl h, fun p hp => (by cases hp), by simp, (z1q _).2 hdec.isU⟩
       · exact g2 t ht
     · simp only [sumW, wT, z0p, List.length_nil]
       omega
     · simp only [List.length_cons]
       omega
 · rename_i hr
   have := z35 l
   rw [z4u hr] at h ⊢
   obtain ⟨more, g1, g2, g3, g4⟩ := ih _ _ h
   rw [List.length_drop] at g3 g4
   exact ⟨more, g1, g2, by omega, by omega⟩
 · rw [z2h h1 h2, h3] at h; exact absurd h (z93 h3).1
 · obtain ⟨-, -, f3, f4, -, f6, -⟩ := z6k h3
   obtain ⟨c1, c2, c3⟩ := zlm h3
   rw [z2h h1 h2, h3] at h ⊢
   obtain ⟨more, g1, g2, g3, g4⟩ := ih _ _ h
   rw [List.length_drop] at g3 g4
   refine ⟨_ :: more, by rw [g1, List.append_assoc]; rfl, fun t ht => ?_, ?_, ?_⟩
   · rcases List.mem_cons.1 ht with rfl | ht
     · exact ⟨fun _ => c1, c2, f6, rfl⟩
     · exact g2 t ht
   · simp only [sumW, wT, List.length_nil]
     omega
   · simp only [List.length_cons]
     omega
theorem zlo {s : List UInt8} (h : (tokR s).2.2 = 0) : (∀ t ∈ (tokR s).1, TokG t) ∧ sumW (tokR s).1 ≤ 4 * s.length ∧ (tokR s).1.length ≤ s.length := by
 unfold tokR at h ⊢
 split
 · exact ⟨fun t ht => (by cases ht), by simp [sumW], by simp⟩
 · rename_i hs
   rw [if_neg hs] at h
   split
   · exact ⟨fun t ht => (by cases ht), by simp [sumW], by simp⟩
   · rename_i hv
     rw [if_neg hv] at h
     obtain ⟨more, g1, g2⟩ := zln s 0 [] h
     rw [g1, List.nil_append]
     exact g2
end Go.Proofs.YtncecbgpkoihpaaGreatDoor
namespace Go.Proofs.YtncecbgpkoihpaaGreatDoor
def sumL : List Nat → Nat
 | [] => 0
 | x :: l => x + sumL l
theorem z94 : ∀ a b : List Nat, sumL (a ++ b) = sumL a + sumL b
 | [], b => by simp [sumL]
 | x :: a, b => by rw [List.cons_append, sumL, sumL, z94 a b]; omega
theorem zhc : ∀ (l : List Nat) (i v : Nat), sumL (l.set i v) + l[i]?.getD 0 ≤ sumL l + v
 | [], i, v => by simp [sumL]
 | x :: l, 0, v => by simp [sumL]; omega
 | x :: l, i + 1, v => by
   have := zhc l i v
   rw [List.set_cons_succ, List.getElem?_cons_succ, sumL, sumL]
   omega
def hW (x : NodeM) : Nat := x.name.size + z0p (atL x)
def z8v (x : NodeM) : Nat := hW x + x.text.size
theorem ze5 {f : NodeM → NodeM} (hf : ∀ x, (f x).name = x.name ∧ (f x).attrs = x.attrs) (l : List NodeM) (i : Nat) : (l.modify i f).map hW = l.map hW := by
 rw [z06 (g := hW) (f := f) (f' := fun x => x) (fun x => by unfold hW atL; rw [(hf x).1, (hf x).2]), z1z]
theorem zrv (l : List NodeM) (p k : Int) (n : Nat) : (z1k l p k n).map hW = l.map hW := by
 unfold z1k
 split
 · exact ze5 (f := fstN n) (fun _ => ⟨rfl, rfl⟩) _ _
 · exact ze5 (f := nxtN n) (fun _ => ⟨rfl, rfl⟩) _ _
theorem Good.places {x y : NodeM} (h : Good x) (h1 : y.name = x.name) (h2 : y.attrs = x.attrs) (h3 : y.text = x.text) : Good y := by
 obtain ⟨a, b, c, d, e, f⟩ := h
 unfold nmL at a
 unfold atL at b
 unfold txL at e
 exact ⟨by unfold nmL; rw [h1]; exact a, by unfold atL; rw [h2]; exact b, by rw [h2]; exact c, by rw [h2]; exact d, by unfold txL; rw [h3]; exact e, by rw [h3]; exact f⟩
theorem z4v {f : NodeM → NodeM} (hf : ∀ x, Good x → Good (f x)) : ∀ {l : List NodeM} {i : Nat}, (∀ x ∈ l, Good x) → ∀ x ∈ l.modify i f, Good x
 | [], i, h => by simp
 | y :: l, 0, h => by
   intro x hx
   rw [List.modify_zero_cons] at hx
   rcases List.mem_cons.1 hx with rfl | hx
   · exact hf y (h y (by simp))
   · exact h x (by simp [hx])
 | y :: l, i + 1, h => by
   intro x hx
   rw [List.modify_succ_cons] at hx
   rcases List.mem_cons.1 hx with rfl | hx
   · exact h x (by simp)
   · exact z4v hf (fun z hz => h z (by simp [hz])) x hx
theorem zlp {l : List NodeM} {p k : Int} {n : Nat} (h : ∀ x ∈ l, Good x) : ∀ x ∈ z1k l p k n, Good x := by
 unfold z1k
 split
 · exact z4v (f := fstN n) (fun x hx => hx.places rfl rfl rfl) h
 · exact z4v (f := nxtN n) (fun x hx => hx.places rfl rfl rfl) h
theorem zp4 (l : List NodeM) (p k : Int) (n : Nat) : (z1k l p k n).map (·.parent) = l.map (·.parent) := by
 unfold z1k
 split
 · rw [z06 (g := fun y : NodeM => y.parent) (f := fstN n) (f' := fun x => x) (fun _ => rfl), z1z]
 · rw [z06 (g := fun y : NodeM => y.parent) (f := nxtN n) (f' := fun x => x) (fun _ => rfl), z1z]
theorem zrw (l : List NodeM) (p k : Int) (n : Nat) : (z1k l p k n).map plOf = lnkP (l.map plOf) p k n := by
 unfold z1k lnkP
 split
 · exact z06 (g := plOf) (f := fstN n) (f' := fstP n) (fun _ => rfl) _ _
 · exact z06 (g := plOf) (f := nxtN n) (f' := nxtP n) (fun _ => rfl) _ _
theorem ze6 : ∀ {a c : List Int} {b b' : LkM}, z2r b a = some b' → z2r b (a ++ c) = z2r b' c
 | [], c, b, b', h => by cases h; rfl
 | p :: a, c, b, b', h => by
   rw [z2r] at h
   rw [List.cons_append, z2r]
   cases hs : z1f b p with
   | none => rw [hs] at h; cases h
   | some b2 =>
     rw [hs] at h
     exact ze6 h
theorem zlq {t : Nat} {r : List Nat} : ∀ {pre : List Nat}, (pre ++ t :: r).Pairwise (· > ·) → popO (t : Int) (pre ++ t :: r) = t :: r
 | [], _ => by rw [List.nil_append, popO, if_pos rfl]
 | s :: pre, h => by
   rw [List.cons_append, List.pairwise_cons] at h
   have := h.1 t (by simp)
   rw [List.cons_append, popO, if_neg (by omega), zlq h.2]
structure ParB (b : LkM) (B : BldM) (c n : Nat) : Prop where
 run : z2r lk0 (B.nodes.map (·.parent)) = some b
 pl : b.pl = B.nodes.map plOf
 last : b.last = B.lasts
 ch : ChainO (b.pl.map (·.1)) b.opn
 dec : b.opn.Pairwise (· > ·)
 st : ∃ pre r, b.opn = pre ++ r ∧ B.inn = topI r ∧ B.deep = r.length
 good : ∀ x ∈ B.nodes, Good x
 texts : ∀ t ∈ B.texts, (z0g t.data.toList).2 = 0
 tl : B.texts.length = B.nodes.length
 le : ∀ (i : Nat) (x : NodeM) (t : ByteArray), B.nodes[i]? = some x → B.texts[i]? = some t → x.text.size ≤ t.size
 sum : sumL (B.nodes.map hW) + sumL (B.texts.map (·.size)) ≤ c
 cnt : B.nodes.length ≤ n
theorem ParB.init : ParB lk0 initM 0 0 := ⟨rfl, rfl, rfl, trivial, .nil, ⟨[], [], rfl, rfl, rfl⟩, fun x hx => (by cases hx), fun x hx => (by cases hx), rfl, fun i x t h => (by cases h), Nat.le_refl _, Nat.le_refl _⟩
theorem ParB.more {b : LkM} {B : BldM} {c n c' n' : Nat} (h : ParB b B c n) (h1 : c ≤ c') (h2 : n ≤ n') : ParB b B c' n' :=
 ⟨h.run, h.pl, h.last, h.ch, h.dec, h.st, h.good, h.texts, h.tl, h.le, Nat.le_trans h.sum h1, Nat.le_trans h.cnt h2⟩
theorem ze7 {a b : List (List UInt8 × List UInt8)} (h : a.Perm b) : z0p a = z0p b := by
 induction h with
 | nil => rfl
 | cons x _ ih => rw [z0p, z0p, ih]
 | swap x y l => rw [z0p, z0p, z0p, z0p]; omega
 | trans _ _ h1 h2 => exact h1.trans h2
theorem zg4 (l : List UInt8) : (bs l).data.toList = l := by unfold bs; simp
theorem zg5 (l : List UInt8) : (bs l).size = l.length := by unfold bs; show l.toArray.size = _; simp
theorem zhd (x : Tok) (p : Int) : (atL (newN x p)).Perm x.attrs := by
 unfold atL newN
 have h := (z49 (z00 x)).map (fun a : ByteArray × ByteArray => (a.1.data.toList, a.2.data.toList))
 have e : (z00 x).map (fun a : ByteArray × ByteArray => (a.1.data.toList, a.2.data.toList)) = x.attrs := by
  unfold z00
  rw [List.map_map]
  have : ((fun a : ByteArray × ByteArray => (a.1.data.toList, a.2.data.toList)) ∘ fun p : List UInt8 × List UInt8 => (bs p.1, bs p.2)) = id := by
   funext q
   simp only [Function.comp, zg4, id]
  rw [this, List.map_id]
 rw [e] at h
 exact h
theorem zlr {x : Tok} (hx : TokG x) (h4 : x.kind ≠ 4) (hd : ¬ dupA (z00 x)) (p : Int) : Good (newN x p) := by
 have hp := zhd x p
 refine ⟨?_, ?_, ?_, ?_, rfl, .inl rfl⟩
 · show (z0a (bs x.name).data.toList).isSome = true
   rw [zg4]
   exact hx.tag h4
 · exact fun q hq => hx.attrs q (hp.mem_iff.1 hq)
 · have := hp.length_eq
   rw [zmt] at this
   rw [this]
   exact hx.few
 · exact z5p (Decidable.not_not.1 hd)
theorem ParB.opens {b : LkM} {B B' : BldM} {c n : Nat} (h : ParB b B c n) {x : Tok} (hx : TokG x) (h4 : x.kind ≠ 4) (hs : z0c B x = .inl B') : ∃ b', ParB b' B' (c + wT x) (n + 1) := by
 unfold z0c at hs
 split at hs
 · cases hs
 · rename_i hno
   split at hs
   · cases hs
   · rename_i hl
     cases hs
     have hwf := (z5s WfL.init h.run).1
     obtain ⟨pre, r, s1, s2, s3⟩ := h.st
     have hlen : b.pl.length = B.nodes.length := by rw [h.pl, List.length_map]
     have hnil : B.inn = -1 ↔ r = [] := by
      rw [s2]
      cases r with
      | nil => simp [topI]
      | cons t r => simp only [topI, reduceCtorEq, iff_false]; first | done | omega
     have hroot : B.inn = -1 → b.pl = [] := fun e => by
      rw [h.pl]
      have : B.nodes = [] := Decidable.not_not.1 fun e2 => hno (.inl ⟨e, e2⟩)
      rw [this]
      rfl
     have hpop : popO B.inn b.opn = r := by
      cases r with
      | nil =>
        have h0 := hroot (hnil.2 rfl)
        have : b.opn = [] := by
         cases ho : b.opn with
         | nil => rfl
         | cons t q =>
           have := hwf.o t (by rw [ho]; simp)
           rw [h0] at this
           exact absurd this (by simp)
        rw [this]
        rfl
      | cons t r =>
        rw [s2, s1]
        have := h.dec
        rw [s1] at this
        exact zlq this
     have hpl : b.pl = [] ↔ B.inn = -1 := by
      refine ⟨fun e => ?_, hroot⟩
      rw [hnil]
      cases r with
      | nil => rfl
      | cons t r =>
        have := hwf.o t (by rw [s1]; simp)
        rw [e] at this
        exact absurd this (by simp)
     have hbad : ¬ zaq b B.inn := by
      unfold zaq
      rw [hpop]
      rintro (e | ⟨e1, e2⟩ | e)
      · exact e (hnil.symm.trans hpl.symm)
      · exact e2 (hpl.1 e1)
      · exact hl (.inr (s3.trans e))
     have hstep : z1f b B.inn = some (z1m b B.inn) := by unfold z1f; rw [if_neg hbad]
     have hla : z1b B = z5r b B.inn := by unfold z1b z5r; rw [h.last]
     have hnewpl : plOf (newN x B.inn) = (B.inn, -1, -1) := rfl
     have hnodes : ∀ {β : Type} (g : NodeM → β) (G : List β → List β), (∀ l p k n, (z1k l p k n).map g = l.map g) → (if B.inn = -1 then B.nodes ++ [newN x B.inn] else z1k (B.nodes ++ [newN x B.inn]) B.inn (z1b B) B.nodes.length).map g = B.nodes.map g ++ [g (newN x B.inn)] := by
      intro β g G hg
      split
      · rw [List.map_append]; rfl
      · rw [hg, List.map_append]; rfl
     have hpar := hnodes (·.parent) id (fun l p k n => zp4 l p k n)
     have hhw := hnodes hW id (fun l p k n => zrv l p k n)
     have hlen2 : (if B.inn = -1 then B.nodes ++ [newN x B.inn] else z1k (B.nodes ++ [newN x B.inn]) B.inn (z1b B) B.nodes.length).length = B.nodes.length + 1 := by
      have := congrArg List.length hpar
      rw [List.length_map, List.length_append, List.length_map] at this
      exact this
     refine ⟨z1m b B.inn, ⟨?_, ?_, ?_, ?_, ?_, ?_, ?_, ?_, ?_, ?_, ?_, ?_⟩⟩
     · simp only
       rw [hpar, ze6 h.run, z2r, show (newN x B.inn).parent = B.inn from rfl, hstep]
       rfl
     · simp only
       unfold z1m
       simp only
       by_cases h0 : b.pl = []
       · rw [if_pos h0, if_pos (hpl.1 h0)]
         have : B.nodes = [] := by
          have := h0
          rw [h.pl] at this
          exact List.map_eq_nil_iff.1 this
         rw [this]
         rfl
       · rw [if_neg h0, if_neg (fun e => h0 (hpl.2 e)), zrw, List.map_append, ← h.pl, hla, ← hlen]
         rfl
     · simp only
       unfold z1m
       simp only
       by_cases h0 : b.pl = []
       · have hl0 : b.last = [] := List.eq_nil_of_length_eq_zero (by rw [hwf.len, h0]; rfl)
         rw [if_pos h0, if_pos (hpl.1 h0), ← h.last, hl0]
         rfl
       · rw [if_neg h0, if_neg (fun e => h0 (hpl.2 e)), h.last, hlen]
     · show ChainO _ (b.pl.length :: popO B.inn b.opn)
       rw [zab, hpop]
       refine ⟨?_, ?_⟩
       · rw [List.getElem?_append_right (by rw [List.length_map]; exact Nat.le_refl _), List.length_map, Nat.sub_self, ← s2]
         rfl
       · have := h.ch
         rw [s1] at this
         exact this.drop.app
     · show (b.pl.length :: popO B.inn b.opn).Pairwise (· > ·)
       rw [hpop, List.pairwise_cons]
       refine ⟨fun t ht => hwf.o t (by rw [s1]; simp [ht]), ?_⟩
       have := h.dec
       rw [s1, List.pairwise_append] at this
       exact this.2.1
     · refine ⟨[], b.pl.length :: r, ?_, ?_, ?_⟩
       · show b.pl.length :: popO B.inn b.opn = _
         rw [hpop]
         rfl
       · simp only
         rw [hlen]
         rfl
       · simp only
         rw [s3]
         rfl
     · simp only
       have happ : ∀ y ∈ B.nodes ++ [newN x B.inn], Good y := by
        intro y hy
        rcases List.mem_append.1 hy with hy | hy
        · exact h.good y hy
        · rw [List.mem_singleton] at hy
          subst hy
          exact zlr hx h4 (fun e => hno (.inr e)) _
       split
       · exact happ
       · exact zlp happ
     · simp only
       intro t ht
       rcases List.mem_append.1 ht with ht | ht
       · exact h.texts t ht
       · rw [List.mem_singleton] at ht
         subst ht
         rfl
     · simp only
       rw [hlen2, List.length_append, h.tl]
       rfl
     · simp only
       intro i y t hy ht
       have htx := hnodes (fun z : NodeM => z.text) id (fun l p k n => by
        unfold z1k
        split
        · rw [z06 (g := fun z : NodeM => z.text) (f := fstN n) (f' := fun x => x) (fun _ => rfl), z1z]
        · rw [z06 (g := fun z : NodeM => z.text) (f := nxtN n) (f' := fun x => x) (fun _ => rfl), z1z])
       have h1 := congrArg (fun l => l[i]?) htx
       try simp only at h1
       rw [List.getElem?_map, hy, Option.map_some] at h1
       by_cases hi : i < B.nodes.length
       · rw [List.getElem?_append_left (by rw [List.length_map]; exact hi), List.getElem?_map, List.getElem?_eq_getElem hi] at h1
         rw [List.getElem?_append_left (by rw [h.tl]; exact hi)] at ht
         have h2 := h.le i _ t (List.getElem?_eq_getElem hi) ht
         simp only [Option.map_some, Option.some.injEq] at h1
         rw [h1]
         exact h2
       · rw [List.getElem?_append_right (by rw [List.length_map]; omega), List.length_map] at h1
         have h3 := (List.getElem?_eq_some_iff.1 hy).1
         rw [hlen2] at h3
         rw [show i - B.nodes.length = 0 from by omega] at h1
         simp only [List.getElem?_cons_zero, Option.some.injEq] at h1
         rw [h1]
         exact Nat.zero_le _
     · simp only
       have hs := h.sum
       rw [hhw, z94, List.map_append, z94]
       simp only [List.map_cons, List.map_nil, sumL]
       have hh : hW (newN x B.inn) = x.name.length + z0p x.attrs := by
        unfold hW
        rw [ze7 (zhd x B.inn), show (newN x B.inn).name = bs x.name from rfl, zg5]
       rw [hh]
       unfold wT
       have : (⟨#[]⟩ : ByteArray).size = 0 := rfl
       omega
     · simp only
       rw [hlen2]
       have := h.cnt
       omega
theorem ParB.ends {b : LkM} {B : BldM} {c n : Nat} (h : ParB b B c n) (hi : B.inn ≠ -1) : ParB b (z2q B) c n := by
 obtain ⟨pre, r, s1, s2, s3⟩ := h.st
 cases r with
 | nil => exact absurd s2 hi
 | cons t r =>
   have s2 : B.inn = (t : Int) := s2
   have hch := h.ch
   rw [s1] at hch
   have hch := (ChainO.drop hch).1
   rw [h.pl, List.map_map, List.getElem?_map, Option.map_eq_some_iff] at hch
   obtain ⟨y, hy, hy2⟩ := hch
   have hn : z28 B = y := by unfold z28; rw [s2, Int.toNat_natCast, hy]; rfl
   have hmod : ∀ {β : Type} (g : NodeM → β), (∀ z, g (txtN (z0m B) z) = g z) → (z2q B).nodes.map g = B.nodes.map g := by
    intro β g hg
    unfold z2q
    simp only
    split
    · rfl
    · rw [z06 (g := g) (f := txtN (z0m B)) (f' := fun x => x) hg, z1z]
   have htv : (z0g (z0m B).data.toList).2 = 0 := by
    unfold z0m
    cases hg : B.texts[B.inn.toNat]? with
    | none => rfl
    | some z => exact h.texts z (List.mem_of_getElem? hg)
   refine ⟨?_, ?_, h.last, h.ch, h.dec, ⟨pre ++ [t], r, ?_, ?_, ?_⟩, ?_, h.texts, ?_, ?_, ?_, ?_⟩
   · rw [hmod (·.parent) (fun _ => rfl)]
     exact h.run
   · rw [hmod plOf (fun _ => rfl)]
     exact h.pl
   · rw [s1, List.append_assoc]
     rfl
   · show (z28 B).parent = _
     rw [hn]
     exact hy2
   · show B.deep - 1 = _
     rw [s3]
     rfl
   · unfold z2q
     simp only
     split
     · exact h.good
     · rename_i hb
       refine z4v (fun x hx => ?_) h.good
       obtain ⟨a1, a2, a3, a4, a5, a6⟩ := hx
       exact ⟨a1, a2, a3, a4, htv, .inr (by show z3f (z0m B) = false; simpa using hb)⟩
   · have := congrArg List.length (hmod (·.parent) (fun _ => rfl))
     rw [List.length_map, List.length_map] at this
     rw [this]
     exact h.tl
   · intro i x t2 hx ht
     unfold z2q at hx ht
     simp only at hx ht
     split at hx
     · exact h.le i x t2 hx ht
     · rw [List.getElem?_modify] at hx
       cases hg : B.nodes[i]? with
       | none => rw [hg] at hx; cases hx
       | some z =>
         rw [hg] at hx
         have h2 := h.le i z t2 hg ht
         by_cases hii : B.inn.toNat = i
         · simp only [hii, if_true, Option.map_eq_map, Option.map_some, Option.some.injEq] at hx
           subst hx
           show (z0m B).size ≤ _
           unfold z0m
           rw [hii, ht]
           exact Nat.le_refl _
         · simp only [hii, if_false, id_eq, Option.map_eq_map, Option.map_some, Option.some.injEq] at hx
           subst hx
           exact h2
   · rw [hmod hW (fun _ => rfl)]
     exact h.sum
   · have := congrArg List.length (hmod (·.parent) (fun _ => rfl))
     rw [List.length_map, List.length_map] at this
     rw [this]
     exact h.cnt
theorem zls {a b : ByteArray} (ha : (z0g a.data.toList).2 = 0) (hb : (z0g b.data.toList).2 = 0) : (z0g (a ++ b).data.toList).2 = 0 := by
 rw [z1q] at *
 rw [ByteArray.data_append, Array.toList_append]
 exact ha.append hb
theorem zj1 {B B' : BldM} {x : Tok} (h : z0c B x = .inl B') : B'.inn ≠ -1 := by
 unfold z0c at h
 split at h
 · cases h
 · split at h
   · cases h
   · cases h
     simp only
     omega
theorem ParB.step {b : LkM} {B B' : BldM} {c n : Nat} (h : ParB b B c n) {x : Tok} (hx : TokG x) (hk : x.kind = 1 ∨ x.kind = 2 ∨ x.kind = 3 ∨ x.kind = 4) (hs : z0y B x = .inl B') : ∃ b', ParB b' B' (c + wT x) (n + 1) := by
 rcases hk with hk | hk | hk | hk
 · rw [zbh hk] at hs
   exact h.opens hx (by omega) hs
 · rw [za9 hk] at hs
   unfold z14 at hs
   split at hs
   · cases hs
   · rename_i hb
     cases hs
     exact ⟨b, (h.ends (fun e => hb (.inl e))).more (by omega) (by omega)⟩
 · rw [zen hk] at hs
   unfold z3g at hs
   cases ho : z0c B x with
   | inr e => rw [ho] at hs; cases hs
   | inl B2 =>
     rw [ho] at hs
     cases hs
     obtain ⟨b2, h2⟩ := h.opens hx (by omega) ho
     exact ⟨b2, h2.ends (zj1 ho)⟩
 · rw [zbi hk] at hs
   unfold z5a at hs
   split at hs
   · cases hs
     refine ⟨b, ⟨h.run, h.pl, h.last, h.ch, h.dec, h.st, h.good, ?_, ?_, ?_, ?_, by have := h.cnt; simp only; omega⟩⟩
     · intro t ht
       rcases List.mem_or_eq_of_mem_set ht with ht | rfl
       · exact h.texts t ht
       · refine zls ?_ (by rw [zg4]; exact hx.text)
         unfold z0m
         cases hg : B.texts[B.inn.toNat]? with
         | none => rfl
         | some z => exact h.texts z (List.mem_of_getElem? hg)
     · simp only
       rw [List.length_set]
       exact h.tl
     · intro i y t hy ht
       simp only at hy ht
       rw [List.getElem?_set] at ht
       split at ht
       · rename_i hii
         split at ht
         · rename_i hlt
           cases ht
           have h2 := h.le i y _ hy (by rw [← hii]; exact List.getElem?_eq_getElem hlt)
           rw [ByteArray.size_append]
           have h3 : (z0m B).size = B.texts[B.inn.toNat].size := by unfold z0m; rw [List.getElem?_eq_getElem hlt]; rfl
           omega
         · cases ht
       · exact h.le i y t hy ht
     · have hs := h.sum
       simp only
       rw [List.map_set]
       have h1 := zhc (B.texts.map (·.size)) B.inn.toNat (z0m B ++ bs x.text).size
       have h2 : (B.texts.map (·.size))[B.inn.toNat]?.getD 0 = (z0m B).size := by
        unfold z0m
        rw [List.getElem?_map]
        cases B.texts[B.inn.toNat]? with
        | none => rfl
        | some z => rfl
       rw [h2, ByteArray.size_append, zg5] at h1
       rw [ByteArray.size_append, zg5]
       unfold wT
       omega
   · split at hs
     · cases hs
       exact ⟨b, h.more (by omega) (by omega)⟩
     · cases hs
theorem ParB.run_ : ∀ {T : List Tok} {b : LkM} {B B' : BldM} {c n : Nat}, ParB b B c n → (∀ t ∈ T, TokG t) → KindOk T → runM B T = .inl B' → ∃ b', ParB b' B' (c + sumW T) (n + T.length)
 | [], b, B, B', c, n, h, _, _, hr => by cases hr; exact ⟨b, h⟩
 | x :: T, b, B, B', c, n, h, hg, hk, hr => by
   rw [runM] at hr
   cases hs : z0y B x with
   | inr e => rw [hs] at hr; cases hr
   | inl B2 =>
     rw [hs] at hr
     obtain ⟨b2, h2⟩ := h.step (hg x (by simp)) (hk x (by simp)) hs
     obtain ⟨b3, h3⟩ := ParB.run_ h2 (fun t ht => hg t (by simp [ht])) hk.tail hr
     refine ⟨b3, h3.more ?_ ?_⟩
     · simp only [sumW]; omega
     · simp only [List.length_cons]; omega
theorem zrx {N : List NodeM} : ∀ {T : List ByteArray}, T.length = N.length → (∀ (i : Nat) (x : NodeM) (t : ByteArray), N[i]? = some x → T[i]? = some t → x.text.size ≤ t.size) → sumL (N.map (·.text.size)) ≤ sumL (T.map (·.size)) := by
 induction N with
 | nil => intro T _ _; exact Nat.zero_le _
 | cons x N ih =>
   intro T hl h
   cases T with
   | nil => cases hl
   | cons t T =>
     have h1 := h 0 x t rfl rfl
     have h2 := ih (T := T) (by simpa using hl) (fun i y u hy hu => h (i + 1) y u hy hu)
     simp only [List.map_cons, sumL]
     omega
theorem zp5 (N : List NodeM) : sumL (N.map z8v) = sumL (N.map hW) + sumL (N.map (·.text.size)) := by
 induction N with
 | nil => rfl
 | cons x N ih =>
   simp only [List.map_cons, sumL, ih]
   unfold z8v
   omega
structure Parsed (s : List UInt8) (N : List NodeM) : Prop where
 good : ∀ x ∈ N, Good x
 ne : N ≠ []
 len : N.length ≤ 4096
 lk : ∃ b, z2r lk0 (N.map (·.parent)) = some b ∧ b.pl = N.map plOf
 sum : sumL (N.map z8v) ≤ 4 * s.length
 cnt : N.length ≤ s.length
theorem zp6 {b : BldM} {x : Tok} {e : Int} (h : z0y b x = .inr e) : e ≠ 0 := by
 have hop : ∀ e, z0c b x = .inr e → e ≠ 0 := by
  intro e h
  unfold z0c at h
  split at h
  · cases h; decide
  · split at h
    · cases h; decide
    · cases h
 unfold z0y at h
 split at h
 · exact hop e h
 · split at h
   · unfold z14 at h
     split at h
     · cases h; decide
     · cases h
   · split at h
     · unfold z3g at h
       cases ho : z0c b x with
       | inl b2 => rw [ho] at h; cases h
       | inr e2 => rw [ho] at h; cases h; exact hop _ ho
     · unfold z5a at h
       split at h
       · cases h
       · split at h
         · cases h
         · cases h; decide
theorem za4 : ∀ {T : List Tok} {B : BldM} {e : Int × Int}, runM B T = .inr e → e.2 ≠ 0
 | [], B, e, h => by cases h
 | x :: T, B, e, h => by
   rw [runM] at h
   cases hs : z0y B x with
   | inr e2 => rw [hs] at h; cases h; exact zp6 hs
   | inl B2 =>
     rw [hs] at h
     exact za4 h
theorem zlt : ∀ {T : List Tok} {B B' : BldM}, Inv B → runM B T = .inl B' → Inv B'
 | [], B, B', h, hr => by cases hr; exact h
 | x :: T, B, B', h, hr => by
   rw [runM] at hr
   cases hs : z0y B x with
   | inr e => rw [hs] at hr; cases hr
   | inl B2 =>
     rw [hs] at hr
     exact zlt (Inv.step h hs) hr
theorem ze8 {s : List UInt8} {N : List NodeM} {p : Int} (h : z1l s = (N, p, 0)) : Parsed s N := by
 unfold z1l at h
 split at h
 · rename_i he
   simp only [Prod.mk.injEq] at h
   exact absurd h.2.2 he
 · rename_i he
   have he : (tokR s).2.2 = 0 := Decidable.not_not.1 he
   obtain ⟨g1, g2, g3⟩ := zlo he
   have hf := (z85 he).1
   have hk : KindOk (tokR s).1 := fun x hx => by have := (hf x hx).1; omega
   cases hr : runM initM (tokR s).1 with
   | inr e =>
     rw [hr] at h
     unfold finM at h
     simp only [Prod.mk.injEq] at h
     exact absurd h.2.2 (za4 hr)
   | inl B =>
     rw [hr] at h
     unfold finM at h
     simp only at h
     split at h
     · cases h
     · rename_i hb
       cases h
       obtain ⟨b, hB⟩ := ParB.run_ ParB.init g1 hk hr
       have hI := zlt Inv.init hr
       have hle := zrx hB.tl hB.le
       have hs := hB.sum
       refine ⟨hB.good, fun e => hb (.inr e), hI.n, ⟨b, hB.run, hB.pl⟩, ?_, ?_⟩
       · rw [zp5]; omega
       · have := hB.cnt
         omega
end Go.Proofs.YtncecbgpkoihpaaGreatDoor
namespace Go.Proofs.YtncecbgpkoihpaaGreatDoor
theorem z7d : ∀ {l : List z07}, l.Pairwise ltA → z6p l = true
 | [], _ => rfl
 | [x], _ => rfl
 | x :: y :: l, h => by
   rw [List.pairwise_cons] at h
   rw [z6p, Bool.and_eq_true, Bool.not_eq_true', decide_eq_false_iff_not]
   refine ⟨fun hlt => ?_, z7d h.2⟩
   have h1 : nmA x < nmA y := h.1 y (by simp)
   exact z3e _ (z3n h1 hlt)
theorem z8l : ∀ {l : List z07}, l.Pairwise ltA → adjA l = false
 | [], _ => rfl
 | [x], _ => rfl
 | x :: y :: l, h => by
   rw [List.pairwise_cons] at h
   rw [adjA, Bool.or_eq_false_iff, decide_eq_false_iff_not]
   refine ⟨fun e => ?_, z8l h.2⟩
   have h1 : nmA x < nmA y := h.1 y (by simp)
   rw [e] at h1
   exact z3e _ h1
theorem zcd {x : NodeM} (h : Good x) : z54 x = true := by
 unfold z54
 simp only [Bool.and_eq_true]
 refine ⟨h.name, ?_, ?_, ?_⟩
 · unfold z60
   simp only [Bool.and_eq_true, Bool.not_eq_true', decide_eq_true_eq]
   refine ⟨h.few, z7d h.sorted, z8l h.sorted, ?_⟩
   rw [List.any_eq_false]
   intro a ha
   obtain ⟨k1, k2⟩ := h.attrs (a.1.data.toList, a.2.data.toList) (List.mem_map_of_mem (f := fun a : z07 => (a.1.data.toList, a.2.data.toList)) ha)
   unfold badA
   simp only at k1 k2
   simp [k1, k2]
 · have := h.text
   unfold txL at this
   simp [this]
 · rw [Bool.or_eq_true]
   rcases h.blank with hb | hb
   · exact .inl (decide_eq_true hb)
   · right
     unfold z3f at hb
     unfold z1d
     simp [hb]
theorem ze9 : ∀ {N : List NodeM}, (∀ x ∈ N, z54 x = true) → okPl N (N.map plOf) = true
 | [], _ => rfl
 | x :: N, h => by
   rw [List.map_cons, okPl, h x (by simp), ze9 (fun y hy => h y (by simp [hy]))]
   simp [plOf]
theorem z5n {s : List UInt8} {N : List NodeM} (h : Parsed s N) : z0k N = true := by
 obtain ⟨b, h1, h2⟩ := h.lk
 have h3 : N.length ≠ 0 := fun e => h.ne (List.eq_nil_of_length_eq_zero e)
 unfold z0k
 rw [h1]
 simp only [h2, ze9 (fun x hx => zcd (h.good x hx)), decide_eq_true h3, decide_eq_true h.len, Bool.and_self]
theorem z4w : ∀ (F : Fo) (p : Int) (n : Nat), (∀ y ∈ F.flat p n, Good y) → F.all Good
 | .nil, _, _, _ => trivial
 | .cons x k r, p, n, h =>
   ⟨(h (Fo.mk x p n k r) (by rw [Fo.flat]; simp)).places rfl rfl rfl, z4w k n (n + 1) (fun y hy => h y (by rw [Fo.flat]; simp [hy])), z4w r p (n + 1 + k.size) (fun y hy => h y (by rw [Fo.flat]; simp [hy]))⟩
theorem zp7 {N : List NodeM} {x : NodeM} {k : Fo} (hR : RightF N x k) (hl : (Fo.cons x k .nil).wr.length ≤ 65536) : ∃ B, z1l (Fo.cons x k .nil).wr = (B, 0, 0) ∧ B.map z0f = N.map z0f := by
 have hg : (Fo.cons x k .nil).all Good := z4w _ (-1) 0 (by rw [hR.flat]; exact fun y hy => zaf (hR.plain y hy))
 obtain ⟨T, h1, h2⟩ := zco (Fo.cons x k .nil) hg 0 [] [] (.inl rfl)
 rw [List.append_nil, List.nil_append, z92] at h2
 have hv : (z0g (Fo.cons x k .nil).wr).2 = 0 := (z1q _).2 (zms hg)
 have hsz : (Fo.cons x k .nil).size ≤ 4096 := by rw [← Fo.flat_len _ (-1) 0, hR.flat]; exact hR.len
 have hdp := hR.depth
 have ht : tokR (Fo.cons x k .nil).wr = (T, 0, 0) := by unfold tokR; rw [if_neg (by omega), if_neg (by simp [hv]), h2]
 have hk : KindOk T := by
  have hf := (z85 (s := (Fo.cons x k .nil).wr) (by rw [ht])).1
  rw [ht] at hf
  exact fun y hy => by have := (hf y hy).1; omega
 obtain ⟨t, T', e1, -, -, e2⟩ := zi2 h1
 generalize (Fo.cons x k .nil).wr = W at *
 obtain ⟨sub, s1, s2⟩ := zev (size := W.length) (T.length + 1) x k hg.1 hg.2.1 T h1 (by omega) [] (-1) 1 0 (by omega) (by omega)
 rw [List.append_nil] at s1
 refine ⟨sub, ?_, by rw [s2, hR.flat]⟩
 unfold z1l
 rw [ht, if_neg (by simp)]
 simp only
 rw [zmi _ _ hk]
 unfold refM
 have hs : z86 T = T := by
  rw [e1, z86, if_neg (by rcases e2 with h | h <;> simp [h])]
 rw [hs]
 subst e1
 simp only
 rw [if_neg (by rcases e2 with h | h <;> simp [h]), s1]
 rfl
theorem zlu {x y : NodeM} (h : z0f x = z0f y) : eqN x y = true := by
 have h1 := congrArg NodeM.name h
 have h2 := congrArg NodeM.attrs h
 have h3 := congrArg NodeM.text h
 have h4 := congrArg NodeM.parent h
 have h5 := congrArg NodeM.first h
 have h6 := congrArg NodeM.next h
 simp only [z0f] at h1 h2 h3 h4 h5 h6
 unfold eqN eqL
 rw [h1, h2, h3, h4, h5, h6]
 simp
theorem z83 : ∀ {N M : List NodeM}, N.map z0f = M.map z0f → eqNs N M = true
 | [], [], _ => rfl
 | [], _ :: _, h => by cases h
 | _ :: _, [], h => by cases h
 | x :: N, y :: M, h => by
   rw [List.map_cons, List.map_cons, List.cons.injEq] at h
   rw [eqNs, zlu h.1, z83 h.2]
   rfl
theorem zb8 {N B : List NodeM} {t u : List UInt8} (h : B.map z0f = N.map z0f) (hN : z0r N t) (hB : z0r B u) : u = t := by
 obtain ⟨x, k, h1, rfl⟩ := hN
 obtain ⟨y, l, h2, rfl⟩ := hB
 exact zi6 _ _ (-1) 0 (by rw [h1.flat, h2.flat, h])
theorem z44 {N : List NodeM} {t u : List UInt8} (hN : z0r N t) (hB : z0r N u) : u = t := zb8 rfl hN hB
theorem z65 {N : List NodeM} (h : z0k N = true) : ∃ t, z0r N t := by
 obtain ⟨x, k, hR⟩ := z7l h
 exact ⟨_, x, k, hR, rfl⟩
theorem zry (attr : Bool) (b : UInt8) : (escL attr b).length ≤ 6 := by
 unfold escL
 repeat' split
 all_goals simp
theorem zg6 (attr : Bool) : ∀ l : List UInt8, (encL attr l).length ≤ 6 * l.length
 | [] => by simp [encL]
 | b :: l => by
   have e : encL attr (b :: l) = escL attr b ++ encL attr l := by simp [encL]
   have h1 := zry attr b
   have h2 := zg6 attr l
   rw [e, List.length_append, List.length_cons]
   omega
theorem zlv {n : List UInt8} (h : (z0a n).isSome = true) : 0 < n.length := by
 cases n with
 | nil => revert h; decide +kernel
 | cons b l => simp
theorem zhe : ∀ {l : List (List UInt8 × List UInt8)}, (∀ p ∈ l, z8q p) → (putA l).length ≤ 6 * z0p l
 | [], _ => by simp [putA]
 | q :: l, h => by
   obtain ⟨h1, -⟩ := h q (by simp)
   have h2 := zlv h1
   have h3 := zg6 true q.2
   have h4 := zhe (l := l) (fun p hp => h p (by simp [hp]))
   rw [z4d, z0p]
   simp only [List.length_append, List.length_cons, List.length_nil]
   omega
theorem zrz (x : NodeM) : (nmL x).length = x.name.size := by unfold nmL; rw [Array.length_toList]; rfl
theorem zs0 (x : NodeM) : (txL x).length = x.text.size := by unfold txL; rw [Array.length_toList]; rfl
theorem zlw : ∀ (F : Fo) (p : Int) (n : Nat), F.all Good → F.wr.length ≤ 5 * F.size + 6 * sumL ((F.flat p n).map z8v)
 | .nil, _, _, _ => by simp [Fo.wr]
 | .cons x k r, p, n, ⟨h1, h2, h3⟩ => by
   have i1 := zlw k n (n + 1) h2
   have i2 := zlw r p (n + 1 + k.size) h3
   have a1 := zhe h1.attrs
   have a2 := zg6 false (txL x)
   have e1 := zrz x
   have e2 := zs0 x
   have e3 : z8v (Fo.mk x p n k r) = x.name.size + z0p (atL x) + x.text.size := rfl
   rw [Fo.wr, Fo.flat, Fo.size, List.map_cons, List.map_append, sumL, z94, e3]
   split <;> simp only [List.length_append, List.length_cons, List.length_nil] <;> omega
structure Fits (N : List NodeM) : Prop where
 len : N.length ≤ 1000
 sum : sumL (N.map z8v) ≤ 4000
theorem zlx {N : List NodeM} (h : Fits N) {t : List UInt8} (ht : z0r N t) : t.length ≤ 29000 := by
 obtain ⟨x, k, hR, rfl⟩ := ht
 have hg : (Fo.cons x k .nil).all Good := z4w _ (-1) 0 (by rw [hR.flat]; exact fun y hy => zaf (hR.plain y hy))
 have h1 := zlw (Fo.cons x k .nil) (-1) 0 hg
 have h2 := Fo.flat_len (Fo.cons x k .nil) (-1) 0
 rw [hR.flat] at h1 h2
 have h3 := h.len
 have h4 := h.sum
 omega
theorem zg7 {s : List UInt8} {N : List NodeM} (h : Parsed s N) (hs : s.length ≤ 1000) : Fits N := by
 have h1 := h.sum
 have h2 := h.cnt
 exact ⟨by omega, by omega⟩
theorem zhf : ∀ {l : List Nat} {v : Nat}, v ∈ l → v ≤ sumL l
 | [], _, h => by cases h
 | x :: l, v, h => by
   rw [sumL]
   rcases List.mem_cons.1 h with rfl | h
   · omega
   · have := zhf h; omega
theorem zhg : ∀ {l : List (List UInt8 × List UInt8)} {p : List UInt8 × List UInt8}, p ∈ l → p.1.length + p.2.length ≤ z0p l
 | [], _, h => by cases h
 | x :: l, v, h => by
   rw [z0p]
   rcases List.mem_cons.1 h with rfl | h
   · omega
   · have := zhg h; omega
theorem zb9 {x : NodeM} {m : Nat} (h : z8v x ≤ m) : x.name.size ≤ m ∧ x.text.size ≤ m ∧ ∀ a ∈ x.attrs, a.1.size ≤ m ∧ a.2.size ≤ m := by
 unfold z8v hW at h
 refine ⟨by omega, by omega, fun a ha => ?_⟩
 have := zhg (l := atL x) (p := (a.1.data.toList, a.2.data.toList)) (List.mem_map_of_mem (f := fun a : z07 => (a.1.data.toList, a.2.data.toList)) ha)
 simp only [Array.length_toList] at this
 have e1 : a.1.data.size = a.1.size := rfl
 have e2 : a.2.data.size = a.2.size := rfl
 omega
theorem zba {N : List NodeM} (h : Fits N) : ∀ x ∈ N, z2v x := fun x hx => by
 have h1 := zhf (List.mem_map_of_mem (f := z8v) hx)
 have h2 := h.sum
 obtain ⟨a1, a2, a3⟩ := zb9 (x := x) (m := 4000) (by omega)
 exact ⟨by omega, by omega, fun _ a ha => by have := a3 a ha; omega⟩
theorem zhh {x : NodeM} (h : z2v x) : z56 x := by
 obtain ⟨h1, h2, h3⟩ := h
 exact ⟨h1, by omega, fun hl a ha => by have := h3 hl a ha; omega⟩
theorem zbb : ∀ l : List z07, z0p (l.map fun a => (a.1.data.toList, a.2.data.toList)) = z7q l
 | [] => rfl
 | a :: l => by
   rw [List.map_cons, z0p, z7q, zbb l]
   simp only [Array.length_toList]
   rfl
theorem zea {x : NodeM} (h : x.attrs.length ≤ 32) : z8v x ≤ fewW x := by
 unfold z8v hW fewW
 have : x.attrs.take 40 = x.attrs := List.take_of_length_le (by omega)
 rw [this]
 have := zbb x.attrs
 unfold atL
 omega
theorem zp8 {N : List NodeM} (h : fewM N = true) (hp : ∀ x ∈ N, x.attrs.length ≤ 32) : Fits N := by
 unfold fewM at h
 simp only [Bool.and_eq_true, decide_eq_true_eq] at h
 have key : ∀ N : List NodeM, (∀ x ∈ N, x.attrs.length ≤ 32) → sumL (N.map z8v) ≤ z0n N := by
  intro N
  induction N with
  | nil => intro _; simp [sumL, z0n]
  | cons x N ih =>
    intro hp
    have h1 := ih (fun y hy => hp y (by simp [hy]))
    have h2 := zea (hp x (by simp))
    rw [List.map_cons, sumL, z0n]
    omega
 have := key N hp
 exact ⟨by omega, by omega⟩
theorem zj2 {N : List NodeM} (h : fewM N = true) : ∀ x ∈ N, z2v x := by
 unfold fewM at h
 simp only [Bool.and_eq_true, decide_eq_true_eq] at h
 have key : ∀ N : List NodeM, z0n N ≤ 4000 → ∀ x ∈ N, fewW x ≤ 4000 := by
  intro N
  induction N with
  | nil => intro _ x hx; cases hx
  | cons y N ih =>
    intro h x hx
    rw [z0n] at h
    rcases List.mem_cons.1 hx with rfl | hx
    · omega
    · exact ih (by omega) x hx
 intro x hx
 have h1 := key N h.2 x hx
 have h3 := h1
 unfold fewW at h1
 refine ⟨by omega, by omega, fun hl a ha => ?_⟩
 have h2 := zea hl
 have := (zb9 (x := x) (m := 4000) (by omega)).2.2 a ha
 omega
theorem z6l {N : List NodeM} (h : z0k N = true) : ∀ x ∈ N, x.attrs.length ≤ 32 := by
 obtain ⟨x, k, hR⟩ := z7l h
 exact fun y hy => (zaf (hR.plain y hy)).few
theorem zeb {N B : List NodeM} (h : B.map z0f = N.map z0f) (hN : ∀ x ∈ N, z2v x) : ∀ x ∈ B, z2v x := fun y hy => by
 have hm : z0f y ∈ N.map z0f := h ▸ List.mem_map_of_mem (f := z0f) hy
 obtain ⟨x, hx, e⟩ := List.mem_map.1 hm
 have h1 := congrArg NodeM.name e
 have h2 := congrArg NodeM.attrs e
 have h3 := congrArg NodeM.text e
 simp only [z0f] at h1 h2 h3
 obtain ⟨a1, a2, a3⟩ := hN x hx
 unfold z2v
 rw [← h1, ← h2, ← h3]
 exact ⟨a1, a2, a3⟩
theorem zj3 {N : List NodeM} (hc : z0k N = true) (hf : Fits N) : ∃ t B, z0r N t ∧ z1l t = (B, 0, 0) ∧ z0k B = true ∧ z0r B t ∧ eqNs N B = true ∧ eqNs B N = true ∧ (∀ x ∈ N, z2v x) ∧ (∀ x ∈ B, z2v x) ∧ t.length ≤ 29000 ∧ B.length ≤ 1000 := by
 obtain ⟨x, k, hR⟩ := z7l hc
 have hw : z0r N (Fo.cons x k .nil).wr := ⟨x, k, hR, rfl⟩
 have hl := zlx hf hw
 obtain ⟨B, h1, h2⟩ := zp7 hR (by omega)
 have hB := z5n (ze8 h1)
 obtain ⟨u, hu⟩ := z65 hB
 have := zb8 h2 hw hu
 subst this
 have hlen := congrArg List.length h2
 simp only [List.length_map] at hlen
 have := hf.len
 exact ⟨_, B, hw, h1, hB, hu, z83 h2.symm, z83 h2, zba hf, zeb h2 (zba hf), hl, by omega⟩
end Go.Proofs.YtncecbgpkoihpaaGreatDoor
namespace Go.Proofs.YtncecbgpkoihpaaGreatDoor
open Go.RowKit Go.Lib
def WrFn (Wt : List NodeM → ByteArray) : Prop := ∀ N, (z0k N = false → Wt N = ⟨#[]⟩) ∧ (z0k N = true → ∃ t, z0r N t ∧ Wt N = ⟨t.toArray⟩)
theorem wrFn : ∃ Wt, WrFn Wt := by
 have h : ∀ N : List NodeM, ∃ b : ByteArray, (z0k N = false → b = ⟨#[]⟩) ∧ (z0k N = true → ∃ t, z0r N t ∧ b = ⟨t.toArray⟩) := fun N => by
  cases h : z0k N with
  | false => exact ⟨_, fun _ => rfl, fun h => (by cases h)⟩
  | true =>
    obtain ⟨t, ht⟩ := z65 h
    exact ⟨⟨t.toArray⟩, fun h => (by cases h), fun _ => ⟨t, ht, rfl⟩⟩
 exact Classical.axiomOfChoice h
theorem zp9 {w : World} {base : Nat} {v : Value} {o : Option Nat} {X : List NodeX} (h : NodeL w base v o X) : NodesRd w (fun k => base ≤ k ∧ k < w.heap.size) v X :=
 ⟨h.own.rd.mono (fun k hk => h.new k hk), fun x hx => (h.ok x hx).2.rd.mono (fun k hk => ⟨(h.newa x hx k hk).1, (h.newa x hx k hk).2.1⟩)⟩
namespace Aw
theorem con_tup {P : Program} {f : FuncId} {args : List AV} {l : List AV} {w : World} (h : ∀ (S : Nat → Prop) (vs : List Value), (∀ k, S k → k < w.heap.size) → args.length = vs.length → (∀ (i : Nat) x v, args[i]? = some x → vs[i]? = some v → VC S w x v) →
 Calls P f vs.toArray w fun e w' => ∃ (us : List Value) (S' : Nat → Prop), e = .returned (.tuple us.toArray) ∧ (∀ k, S' k → w.heap.size ≤ k ∧ k < w'.heap.size) ∧ l.length = us.length ∧ (∀ (i : Nat) x v, l[i]? = some x → us[i]? = some v → VC S' w' x v) ∧ Fr (fun _ => False) w w') : z8r P w f args (.tup l) [] := by
 intro S vs hS hl hv
 refine (h S vs hS hl hv).mono fun e w' ⟨us, S', he, hS', hlen, hr, hf⟩ => ⟨.tuple us.toArray, ⟨fun _ => 0, fun _ => undef, fun _ => none, fun k => S k ∨ S' k⟩, he, ?_, .tup l us hlen (fun i x v h1 h2 => .cl _ _ ((hr i x v h1 h2).keep (fun k hk => .inr hk) (fun _ _ => rfl)))⟩
 have hd : ∀ K, z03 [] K = .dead := fun K => rfl
 refine ⟨hf, fun K => by rw [hd]; trivial, fun K k hk => ?_, fun K K' k hk => ?_, fun k hk => hk.elim (fun hk => Nat.lt_of_lt_of_le (hS k hk) hf.size) (fun hk => (hS' k hk).2), fun k hk => .inl hk, fun k hk => hk.imp id (fun hk => (hS' k hk).1)⟩
 · unfold Owns at hk; rw [hd] at hk; exact hk.elim
 · unfold Owns at hk; rw [hd] at hk; exact hk.elim
theorem parse_con (s : ByteArray) (w : World) (hst : St w) (hs : s.size ≤ 9223372036854775807) : z8r Tryz.prog w 41 [.sc (.string s)]
 (.tup [.agg [.ro ((z1l s.data.toList).1.map encN)], .sc (.int .i64 (z1l s.data.toList).2.1), .sc (.int .i64 (z1l s.data.toList).2.2)]) [] := by
 refine con_tup fun S vs hS hl hv => ?_
 match vs, hl with
 | [v], _ =>
   have e1 := (hv 0 _ v rfl rfl).sc_inv
   subst e1
   refine (z5z s w hst hs).mono fun e w' ⟨A, c, o, X, h1, h2, h3, h4⟩ => ?_
   refine ⟨[.agg #[.slice A X.length c], .int .i64 _, .int .i64 _], fun k => w.heap.size ≤ k ∧ k < w'.heap.size, h1, fun k hk => hk, rfl, fun i x u a1 a2 => ?_, h4⟩
   match i with
   | 0 => cases a1; cases a2; rw [← h3]; exact vc_tree rfl (zp9 h2)
   | 1 => cases a1; cases a2; exact .sc _
   | 2 => cases a1; cases a2; exact .sc _
   | i + 3 => simp at a1
theorem check_con {N : List NodeM} (hz : ∀ x ∈ N, z56 x) (w : World) (hst : St w) : z8r Tryz.prog w 46 [.agg [.ro (N.map encN)]] (.sc (.int .i64 (okE (z0k N)))) [] := by
 refine con_flat fun S vs hS hl hv => ?_
 match vs, hl with
 | [v], _ =>
   obtain ⟨A, c, rfl, ht⟩ := vc_tree_inv hS (hv 0 _ v rfl rfl)
   exact zn9 hst ht hz
theorem write_con {Wt : List NodeM → ByteArray} (hW : WrFn Wt) {N : List NodeM} (hz : ∀ x ∈ N, z2v x) (hl : ∀ t, z0r N t → t.length ≤ 1000000000) (w : World) (hst : St w) :
 z8r Tryz.prog w 47 [.agg [.ro (N.map encN)]] (.tup [.sc (.string (Wt N)), .sc (.int .i64 (okE (z0k N)))]) [] := by
 refine con_tup fun S vs hS hl2 hv => ?_
 match vs, hl2 with
 | [v], _ =>
   obtain ⟨A, c, rfl, ht⟩ := vc_tree_inv hS (hv 0 _ v rfl rfl)
   refine (zna hst ht hz hl).mono fun e w' ⟨h, hf⟩ => ?_
   refine ⟨[.string (Wt N), .int .i64 (okE (z0k N))], fun _ => False, ?_, fun k hk => hk.elim, rfl, fun i x u a1 a2 => ?_, hf⟩
   · rcases h with ⟨h1, rfl⟩ | ⟨h1, t, h2, rfl⟩
     · rw [h1, (hW N).1 h1]; rfl
     · obtain ⟨u, g1, g2⟩ := (hW N).2 h1
       rw [h1, g2, z44 h2 g1]
       rfl
   match i with
   | 0 => cases a1; cases a2; exact .sc _
   | 1 => cases a1; cases a2; exact .sc _
   | i + 2 => simp at a1
def sp2 (Wt : List NodeM → ByteArray) : Spec := ⟨fun f args =>
 if f = 41 then (match args with
  | [.sc (.string s)] => some (s.size ≤ 9223372036854775807, .tup [.agg [.ro ((z1l s.data.toList).1.map encN)], .sc (.int .i64 (z1l s.data.toList).2.1), .sc (.int .i64 (z1l s.data.toList).2.2)], [])
  | _ => none)
 else if f = 46 then (match args with
  | [.agg [.ro l]] => (decL decN l).map fun N => (∀ x ∈ N, z56 x, .sc (.int .i64 (okE (z0k N))), [])
  | _ => none)
 else if f = 47 then (match args with
  | [.agg [.ro l]] => (decL decN l).map fun N => ((∀ x ∈ N, z2v x) ∧ ∀ t, z0r N t → t.length ≤ 1000000000, .tup [.sc (.string (Wt N)), .sc (.int .i64 (okE (z0k N)))], [])
  | _ => none)
 else sp1.call f args, fun _ _ _ => none⟩
variable {Wt : List NodeM → ByteArray}
theorem sp2_few {N : List NodeM} : (sp2 Wt).call 45 [.agg [.ro (N.map encN)]] = some ((N.length ≤ 60 → z0n N ≤ 4611686018427387904), .sc (.bool (fewM N)), []) := sp1_few
theorem sp2_Same {N M : List NodeM} : (sp2 Wt).call 38 [.agg [.ro (N.map encN)], .agg [.ro (M.map encN)]] = some (True, .sc (.bool (eqNs N M)), []) := sp1_Same
theorem sp2_ref {N : List NodeM} : (sp2 Wt).call 43 [.agg [.ro (N.map encN)]] = some (N.length ≤ 1000000 ∧ ∀ x ∈ N, x.attrs.length ≤ 1000000000, .agg [.ro (N.map encN)], []) := sp1_ref
theorem sp2_same {N M : List NodeM} {b : Bool} : (sp2 Wt).call 42 [.agg [.ro (N.map encN)], .agg [.ro (M.map encN)], .sc (.bool b)] = some (True, .sc (.bool (zgm b N M)), []) := sp1_same
theorem sp2_works : (sp2 Wt).call 39 [] = some (True, .sc (.bool true), []) := sp1_works
theorem sp2_Parse {s : ByteArray} : (sp2 Wt).call 41 [.sc (.string s)] = some (s.size ≤ 9223372036854775807, .tup [.agg [.ro ((z1l s.data.toList).1.map encN)], .sc (.int .i64 (z1l s.data.toList).2.1), .sc (.int .i64 (z1l s.data.toList).2.2)], []) := by
 simp [sp2]
theorem sp2_Check {N : List NodeM} : (sp2 Wt).call 46 [.agg [.ro (N.map encN)]] = some (∀ x ∈ N, z56 x, .sc (.int .i64 (okE (z0k N))), []) := by
 simp [sp2, decL_map decN_enc]
theorem sp2_Write {N : List NodeM} : (sp2 Wt).call 47 [.agg [.ro (N.map encN)]] = some ((∀ x ∈ N, z2v x) ∧ ∀ t, z0r N t → t.length ≤ 1000000000, .tup [.sc (.string (Wt N)), .sc (.int .i64 (okE (z0k N)))], []) := by
 simp [sp2, decL_map decN_enc]
theorem sp2_ok (hW : WrFn Wt) (w : World) (hst : St w) : SpecOk Tryz.prog (sp2 Wt) w (fun _ => False) := by
 refine ⟨fun t a b r h => (by cases h), fun f args c r rs h => ?_⟩
 unfold sp2 at h
 simp only at h
 split at h
 · rename_i hf
   subst hf
   refine ⟨enters_of Tryz.func41 (by kernel_rfl) (by kernel_rfl), ?_⟩
   split at h <;> cases h
   exact fun hc w' f => parse_con _ w' (hst.same f) hc
 split at h
 · rename_i hf
   subst hf
   refine ⟨enters_of Tryz.func46 (by kernel_rfl) (by kernel_rfl), ?_⟩
   split at h <;> try (cases h; done)
   rename_i l
   cases hN : decL decN l with
   | none => rw [hN] at h; cases h
   | some N =>
     rw [hN] at h
     cases h
     obtain rfl := decL_some decN_some hN
     exact fun hc w' f => check_con hc w' (hst.same f)
 split at h
 · rename_i hf
   subst hf
   refine ⟨enters_of Tryz.func47 (by kernel_rfl) (by kernel_rfl), ?_⟩
   split at h <;> try (cases h; done)
   rename_i l
   cases hN : decL decN l with
   | none => rw [hN] at h; cases h
   | some N =>
     rw [hN] at h
     cases h
     obtain rfl := decL_some decN_some hN
     exact fun hc w' f => write_con hW hc.1 hc.2 w' (hst.same f)
 · exact (sp1_ok w hst).call _ _ _ _ _ h
end Aw
end Go.Proofs.YtncecbgpkoihpaaGreatDoor
namespace Go.Proofs.YtncecbgpkoihpaaGreatDoor
open Go.RowKit Go.Lib
structure BackF (Wt : List NodeM → ByteArray) (N : List NodeM) (u : ByteArray) (B : List NodeM) : Prop where
 wN : Wt N = u
 tr : z1l u.data.toList = (B, 0, 0)
 cB : z0k B = true
 wB : Wt B = u
 e1 : eqNs N B = true
 e2 : eqNs B N = true
 vN : ∀ x ∈ N, z2v x
 nN : ∀ x ∈ N, z56 x
 vB : ∀ x ∈ B, z2v x
 lN : ∀ t, z0r N t → t.length ≤ 1000000000
 lB : ∀ t, z0r B t → t.length ≤ 1000000000
 su : u.size ≤ 9223372036854775807
 aN : N.length ≤ 1000000 ∧ ∀ x ∈ N, x.attrs.length ≤ 1000000000
 aB : B.length ≤ 1000000 ∧ ∀ x ∈ B, x.attrs.length ≤ 1000000000
theorem zsy {Wt : List NodeM → ByteArray} (hW : WrFn Wt) {N : List NodeM} (hc : z0k N = true) (hf : Fits N) : ∃ u B, BackF Wt N u B := by
 obtain ⟨t, B, h1, h2, h3, h4, h5, h6, h7, h8, h9, h10⟩ := zj3 hc hf
 obtain ⟨t1, g1, g2⟩ := (hW N).2 hc
 obtain ⟨t2, g3, g4⟩ := (hW B).2 h3
 have q1 := z44 h1 g1
 have q2 := z44 h4 g3
 rw [q1] at g2
 rw [q2] at g4
 have hN := hf.len
 exact ⟨⟨t.toArray⟩, B, g2, by simpa using h2, h3, g4, h5, h6, h7, fun x hx => zhh (h7 x hx), h8, fun t ht => by rw [z44 h1 ht]; omega, fun t ht => by rw [z44 h4 ht]; omega, by show t.toArray.size ≤ _; rw [List.size_toArray]; omega,
  ⟨by omega, fun x hx => by have := z6l hc x hx; omega⟩, ⟨by omega, fun x hx => by have := z6l h3 x hx; omega⟩⟩
namespace Aw
set_option maxHeartbeats 4000000 in
set_option maxRecDepth 100000 in
theorem treeBack_con {Wt : List NodeM → ByteArray} (hW : WrFn Wt) (s : ByteArray) (T : List NodeM) (hs63 : s.size ≤ 9223372036854775807) (hT : T.length ≤ 60 → z0n T ≤ 4611686018427387904) :
 Con Tryz.prog St 9 [.sc (.string s), .agg [.ro (T.map encN)]] (.sc (.bool true)) [] := by
 refine zd8 [] (fun w h => sp2_ok hW w h) (by kernel_rfl) Tryz.func9 rfl ?_
 intro _
 simp only [Tryz.ntmps9]
 simp only [List.length_cons, List.length_nil, Nat.reduceAdd, Nat.reduceSub, List.replicate_succ, List.replicate_zero, List.cons_append, List.nil_append]
 have oT : okE true = 0 := rfl
 have oF : okE false = 50 := rfl
 have c2 : ((50 : Int) != 0) = true := rfl
 by_cases h0 : (s.size : Int) > 1000
 · have c0 : decide ((s.size : Int) > 1000) = true := decide_eq_true h0
   simp (maxSteps := 2000000) only [↓awA, awB, evA, envE, ofV, putE, z03, setRow, spl, oneP, z0w, frzA, mapO, z1i, z0j, z0b, z0d, z1o, z29, Nat.reduceAdd, reduceIte, reduceCtorEq, Nat.reduceLT, Nat.reduceLeDiff, Nat.reduceEqDiff, Nat.reduceSub, tys,  c0, sp2_works, List.size_toArray, Tryz.results9]
 have c0 : decide ((s.size : Int) > 1000) = false := decide_eq_false h0
 cases h1 : fewM T
 case false =>
  simp (maxSteps := 2000000) only [↓awA, awB, evA, envE, ofV, putE, z03, setRow, spl, oneP, z0w, frzA, mapO, z1i, z0j, z0b, z0d, z1o, z29, Nat.reduceAdd, reduceIte, reduceCtorEq, Nat.reduceLT, Nat.reduceLeDiff, Nat.reduceEqDiff, Nat.reduceSub, tys,  c0, h1, sp2_few, sp2_works, hT, List.size_toArray, Tryz.results9]
  exact hT
 rcases hP : z1l s.data.toList with ⟨N, p, e⟩
 by_cases he : e = 0
 · subst he
   have hpar := ze8 hP
   obtain ⟨u, B, F⟩ := zsy hW (z5n hpar) (zg7 hpar (by rw [Array.length_toList]; show s.size ≤ 1000; omega))
   have f1 := z5n hpar
   obtain ⟨f2, f3, f4, f5, f6, f7, f8, f9, f10, f11, f12, f13, f14, f15⟩ := F
   have e1 := z8d N B
   simp (maxSteps := 2000000) only [↓awA, awB, evA, envE, ofV, putE, z03, setRow, spl, oneP, z0w, frzA, mapO, z1i, z0j, z0b, z0d, z1o, z29, Nat.reduceAdd, reduceIte, reduceCtorEq, Nat.reduceLT, Nat.reduceLeDiff, Nat.reduceEqDiff, Nat.reduceSub, tys,  c0, h1, hP, oT, f1, f2, f3, f4, f5, f6, f7, e1, sp2_few, sp2_works, sp2_Same, sp2_ref, sp2_same, sp2_Parse, sp2_Check, sp2_Write, List.size_toArray, Tryz.results9]
   exact ⟨hT, hs63, f9, ⟨f8, f11⟩, f13, ⟨f10, f12⟩, zf0 (by kernel_rfl), f14, f15⟩
 · have c1 : (e != 0) = true := by simp [he]
   cases hc : z0k T
   case false =>
    simp (maxSteps := 2000000) only [↓awA, awB, evA, envE, ofV, putE, z03, setRow, spl, oneP, z0w, frzA, mapO, z1i, z0j, z0b, z0d, z1o, z29, Nat.reduceAdd, reduceIte, reduceCtorEq, Nat.reduceLT, Nat.reduceLeDiff, Nat.reduceEqDiff, Nat.reduceSub, tys,  c0, h1, hP, c1, c2, hc, oF, sp2_few, sp2_works, sp2_Parse, sp2_Check, List.size_toArray, Tryz.results9]
    exact ⟨hT, hs63, fun x hx => zhh (zj2 h1 x hx)⟩
   obtain ⟨u, B, F⟩ := zsy hW hc (zp8 h1 (z6l hc))
   obtain ⟨f2, f3, f4, f5, f6, f7, f8, f9, f10, f11, f12, f13, f14, f15⟩ := F
   have e1 := z8d T B
   simp (maxSteps := 2000000) only [↓awA, awB, evA, envE, ofV, putE, z03, setRow, spl, oneP, z0w, frzA, mapO, z1i, z0j, z0b, z0d, z1o, z29, Nat.reduceAdd, reduceIte, reduceCtorEq, Nat.reduceLT, Nat.reduceLeDiff, Nat.reduceEqDiff, Nat.reduceSub, tys,  c0, h1, hP, c1, hc, oT, f2, f3, f4, f5, f6, f7, e1, sp2_few, sp2_works, sp2_Same, sp2_ref, sp2_same, sp2_Parse, sp2_Check, sp2_Write, List.size_toArray, Tryz.results9]
   exact ⟨hT, hs63, f9, ⟨f8, f11⟩, f13, ⟨f10, f12⟩, zf0 (by kernel_rfl), f14, f15⟩
end Aw
theorem zec {T : List NodeM} {A : Option Addr} {n c : Nat} (s : ByteArray) (w : World) (hst : St w) (hs63 : s.size ≤ 9223372036854775807) (hT : Tr T w A n c) (bT : T.length ≤ 60 → z0n T ≤ 4611686018427387904) :
 Calls Tryz.prog 9 #[.string s, .agg #[.slice A n c]] w fun e w' => e = .returned (.bool true) ∧ Fr (fun _ => False) w w' := by
 obtain ⟨Wt, hW⟩ := wrFn
 obtain ⟨X, S, h1, h2, rfl⟩ := hT
 refine (Aw.treeBack_con hW s (X.map (·.model)) hs63 bT w hst S [.string s, .agg #[.slice A n c]] h2 rfl (fun i x v a1 a2 => ?_)).mono (fun e w' h => ?_)
 · match i with
   | 0 => cases a1; cases a2; exact .sc _
   | 1 => cases a1; cases a2; exact Aw.vc_tree rfl h1
   | i + 2 => simp at a1
 · obtain ⟨v, I', rfl, hm, hv⟩ := h
   rw [hv.sc_inv]
   exact ⟨rfl, hm.fr⟩
end Go.Proofs.YtncecbgpkoihpaaGreatDoor
