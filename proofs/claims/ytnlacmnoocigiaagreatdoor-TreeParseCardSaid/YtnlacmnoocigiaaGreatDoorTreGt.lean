/- tree: a node more: the rows of texts and of last kids, both appended to, in whatever order. -/
import Derived.Test.YtnlacmnoocigiaaGreatDoorTreCd
import Derived.Test.YtnlacmnoocigiaaGreatDoorEntBc
namespace Go.Proofs.YtnlacmnoocigiaaGreatDoor
open Go.RowKit Go.Lib
attribute [local go_sem ↓] Go.wp_at_zero Go.wp_at_succ
def zgy (ts:Array TypeId)(ty:TypeId)(vs:Array Value):Sem Value:=Builtin.append_ ts ty vs
theorem z5p (ts:Array TypeId)(ty:TypeId)(vs:Array Value):Builtin.append_ ts ty vs=zgy ts ty vs:=rfl
attribute [local go_sem ↓] z5p
theorem zxq (w:World)(s:ByteArray)(E:TypeId)(W:World)(b:Nat)(h:W.heap[b]? =some (.cells #[.string s] E (0,0))):Rd strT W (fun k=>k=b) (.slice (some ⟨b,0,none⟩) 1 1) [s]:=by refine⟨_,1,rfl,Nat.le_refl _,by simp[maxLen],fun h=>(by cases h),fun _=>⟨b,0,rfl,rfl,fun j u hu=> ?_⟩⟩;rw[cell_of_row _ _ _ _ _ _ h];simpa [Cod.flat,strT] using hu
theorem zpy (w:World)(s:Int)(E:TypeId)(W:World)(b:Nat)(h:W.heap[b]? =some (.cells #[.int .i64 s] E (0,0))):Rd intT W (fun k=>k=b) (.slice (some ⟨b,0,none⟩) 1 1) [s]:=by refine⟨_,1,rfl,Nat.le_refl _,by simp[maxLen],fun h=>(by cases h),fun _=>⟨b,0,rfl,rfl,fun j u hu=> ?_⟩⟩;rw[cell_of_row _ _ _ _ _ _ h];simpa [Cod.flat,intT] using hu
structure FirstT (P w6:World)(ot o6:Option Nat)(v6:Value)(T':List ByteArray):Prop where
 own:Own strT w6 9 v6 o6 T'
 fr:Fr (fun k=>ot=some k) P w6
 new:∀k,o6=some k→ot=some k∨(P.heap.size≤k∧k<w6.heap.size)
structure FirstL (P w6:World)(ol o6:Option Nat)(v6:Value)(L':List Int):Prop where
 own:Own intT w6 3 v6 o6 L'
 fr:Fr (fun k=>ol=some k) P w6
 new:∀k,o6=some k→ol=some k∨(P.heap.size≤k∧k<w6.heap.size)
structure TwoApp (W w':World)(ot ol ot' ol':Option Nat)(tv lv:Value)(T':List ByteArray)(L':List Int):Prop where
 t:Own strT w' 9 tv ot' T'
 l:Own intT w' 3 lv ol' L'
 fr:Fr (fun k=>ot=some k∨ol=some k) W w'
 nt:∀k,ot'=some k→ot=some k∨W.heap.size≤k
 nl:∀k,ol'=some k→ol=some k∨W.heap.size≤k
 ap:∀k,ot'=some k→ol'≠some k
section
variable {W P Q : World} {base b : Nat} {nv : Value} {At Al : Option Addr} {n ct cl : Nat} {on ot ol : Option Nat} {X : List NodeX} {T : List ByteArray} {L : List Int} {inn : Int} {deep : Nat}
theorem z68 (B:BldL W base b nv (.slice At n ct) (.slice Al n cl) on ot ol X T L inn deep)(hT:T.length=n)(hn:n≤4096)(F:Fr (fun _=>False) W P){h1:Nat}(hc:P.heap[h1]? =some (.cells #[.string ⟨#[]⟩] 9 (0,0))):
 ∃A6 c6 w6,(zgy #[38,38] 38 #[.slice At n ct,.slice (some ⟨h1,0,none⟩) 1 1]).run Tryz.prog P=.ok (.slice A6 (n+1) c6) w6∧Hid (∃o6,FirstT P w6 ot o6 (.slice A6 (n+1) c6) (T++[⟨#[]⟩])):=by
 obtain⟨v,w6,o6,hr,h1,h2,h3⟩:=z0s (P:=Tryz.prog) (C:=strT) (ty:=38) zwk P (B.texts.fr F (fun _ _ h=>h)) (zxq P ⟨#[]⟩ _ P h1 hc) (by rw[hT];simp;omega);obtain⟨A6,c6,hv, -, -⟩:=h1.form;rw[List.length_append,hT] at hv;subst hv;exact⟨A6,c6,w6,hr,hide ⟨o6,h1,h2,h3⟩⟩
theorem zya (B:BldL W base b nv (.slice At n ct) (.slice Al n cl) on ot ol X T L inn deep)(hL:L.length=n)(hn:n≤4096)(F:Fr (fun _=>False) W P){h1:Nat}(hc:P.heap[h1]? =some (.cells #[.int .i64 (-1)] 3 (0,0))):
 ∃A6 c6 w6,(zgy #[40,40] 40 #[.slice Al n cl,.slice (some ⟨h1,0,none⟩) 1 1]).run Tryz.prog P=.ok (.slice A6 (n+1) c6) w6∧Hid (∃o6,FirstL P w6 ol o6 (.slice A6 (n+1) c6) (L++[-1])):=by
 obtain⟨v,w6,o6,hr,h1,h2,h3⟩:=z0s (P:=Tryz.prog) (C:=intT) (ty:=40) z88 P (B.lasts.fr F (fun _ _ h=>h)) (zpy P (-1) _ P h1 hc) (by rw[hL];simp;omega);obtain⟨A6,c6,hv, -, -⟩:=h1.form;rw[List.length_append,hL] at hv;subst hv;exact⟨A6,c6,w6,hr,hide ⟨o6,h1,h2,h3⟩⟩
theorem z4b {w6:World}{A6:Option Addr}{c6:Nat}(B:BldL W base b nv (.slice At n ct) (.slice Al n cl) on ot ol X T L inn deep)(hL:L.length=n)(hn:n≤4096)(F:Fr (fun _=>False) W P)
 (h6:Hid (∃o6,FirstT P w6 ot o6 (.slice A6 (n+1) c6) (T++[⟨#[]⟩]))) (G:Fr (fun _=>False) w6 Q) {h1:Nat} (hc:Q.heap[h1]? =some (.cells #[.int .i64 (-1)] 3 (0,0))):
 ∃A7 c7 w7,(zgy #[40,40] 40 #[.slice Al n cl,.slice (some ⟨h1,0,none⟩) 1 1]).run Tryz.prog Q=.ok (.slice A7 (n+1) c7) w7∧Hid (∃ot' ol',TwoApp W w7 ot ol ot' ol' (.slice A6 (n+1) c6) (.slice A7 (n+1) c7) (T++[⟨#[]⟩]) (L++[-1])):=by
 obtain⟨o6,h6⟩:=h6.out;have sep:∀k,ol=some k→¬ot=some k:=fun k hk=>(B.bl k hk).2.2.2;obtain⟨v,w7,o7,hr,h1,h2,h3⟩:=z0s (P:=Tryz.prog) (C:=intT) (ty:=40) z88 Q (((B.lasts.fr F (fun _ _ h=>h)).fr h6.fr sep).fr G (fun _ _ h=>h)) (zpy Q (-1) _ Q h1 hc) (by rw[hL];simp;omega);obtain⟨A7,c7,hv, -, -⟩:=h1.form;rw[List.length_append,hL] at hv;subst hv;have sP:=F.size;have s6:=h6.fr.size;have sQ:=G.size
 have ap:∀k,o6=some k→o7≠some k∧¬ol=some k:=fun k hk=>by
  have hk6:=h6.own.lt k hk
  have hnl:¬ol=some k:=fun e=>by
   rcases h6.new k hk with g|g
   · exact sep k e g
   · have:=B.lasts.lt k e;omega
  refine⟨fun e=> ?_,hnl⟩;rcases h3 k e with g|g
  · exact hnl g
  · omega
 refine⟨A7,c7,w7,hr,hide ⟨o6,o7,(h6.own.fr G (fun _ _ h=>h)).fr h2 (fun k hk=>(ap k hk).2),h1, ?_, ?_, ?_,fun k hk=>(ap k hk).1⟩⟩
 · exact(((F.mono (fun _ h=>h.elim)).trans (h6.fr.mono (fun k hk=>.inl hk))).trans (G.mono (fun _ h=>h.elim))).trans (h2.mono (fun k hk=>.inr hk))
 · intro k hk;rcases h6.new k hk with g|g
   · exact .inl g
   · exact .inr (by omega)
 · intro k hk;rcases h3 k hk with g|g
   · exact .inl g
   · exact .inr (by omega)
theorem BldL.two_ {tv lv tv' lv':Value}{w':World}{ot' ol':Option Nat}{T':List ByteArray}{L':List Int}(h:BldL W base b nv tv lv on ot ol X T L inn deep)(t:TwoApp W w' ot ol ot' ol' tv' lv' T' L'):
 BldL ((w'.setCell ⟨b,1,none⟩ tv').setCell ⟨b,2,none⟩ lv') base b nv tv' lv' on ot' ol' X T' L' inn deep:=by
 have f:=t.fr;have fb:Fr (fun k=>k=b) w' ((w'.setCell ⟨b,1,none⟩ tv').setCell ⟨b,2,none⟩ lv'):=(Fr.set_b w' b 1 _).trans (Fr.set_b _ b 2 _);have hb1:¬(ot=some b∨ol=some b):=fun e=>e.elim (fun e=>(h.bt b e).2.1 rfl) (fun e=>(h.bl b e).2.1 rfl);have hblk:=(f.block b h.lt hb1).trans h.blk;have hbase:base≤W.heap.size:=Nat.le_trans h.nb (Nat.le_of_lt h.lt);have hlt:=h.lt
 have hbt':¬ot'=some b:=fun e=>by
  rcases t.nt b e with e|e
  · exact hb1 (.inl e)
  · omega
 have hbl':¬ol'=some b:=fun e=>by
  rcases t.nl b e with e|e
  · exact hb1 (.inr e)
  · omega
 have farT:∀k,k<W.heap.size→ot≠some k→ot'≠some k:=fun k hk h1 e=>by
  rcases t.nt k e with e|e
  · exact h1 e
  · omega
 have farL:∀k,k<W.heap.size→ol≠some k→ol'≠some k:=fun k hk h1 e=>by
  rcases t.nl k e with e|e
  · exact h1 e
  · omega
 have onT:∀k,on=some k→ot≠some k:=fun k hk e=>(h.bt k e).2.2 hk;have onL:∀k,on=some k→ol≠some k:=fun k hk e=>(h.bl k e).2.2.1 hk;refine⟨?_,h.nb, ?_, ?_, ?_, ?_,h.bn, ?_, ?_, ?_⟩
 · have:=heap_setCell_same _ b 2 _ _ lv' (heap_setCell_same w' b 1 _ _ tv' hblk);exact this
 · exact(h.nodes.fr f (fun k hk e=>e.elim (onT k hk) (onL k hk))).fr fb (fun k hk=>(h.bn k hk).2)
 · intro y hy;exact((h.ok y hy).fr f (fun k hk e=>e.elim (h.ba y hy k hk).2.2.2.1 (h.ba y hy k hk).2.2.2.2)).fr fb (fun k hk=>(h.ba y hy k hk).2.1)
 · exact t.t.fr fb (fun k hk e=>hbt' (e ▸ hk))
 · exact t.l.fr fb (fun k hk e=>hbl' (e ▸ hk))
 · intro k hk;refine⟨?_,fun e=>hbt' (e ▸ hk),fun e=> ?_⟩
   · rcases t.nt k hk with g|g
     · exact(h.bt k g).1
     · omega
   · rcases t.nt k hk with g|g
     · exact onT k e g
     · have:=h.nodes.lt k e;omega
 · intro k hk;refine⟨?_,fun e=>hbl' (e ▸ hk),fun e=> ?_,fun e=>t.ap k e hk⟩
   · rcases t.nl k hk with g|g
     · exact(h.bl k g).1
     · omega
   · rcases t.nl k hk with g|g
     · exact onL k e g
     · have:=h.nodes.lt k e;omega
 · intro y hy k hk;obtain⟨g1,g2,g3,g4,g5⟩:=h.ba y hy k hk;have hl:=(h.ok y hy).2.lt k hk;exact⟨g1,g2,g3,farT k hl g4,farL k hl g5⟩
theorem z4h {w6:World}{v6:Value}{T':List ByteArray}(B:BldL W base b nv (.slice At n ct) (.slice Al n cl) on ot ol X T L inn deep)(h6:Hid (∃o6,FirstT P w6 ot o6 v6 T')){h:Nat}(hh:W.heap.size≤h){o:Obj}(hc:P.heap[h]? =some o):w6.heap[h]? =some o:=by obtain⟨o6,h6⟩:=h6.out;rw[h6.fr.block h (Array.getElem?_eq_some_iff.1 hc).1 (fun e=>by have:=B.texts.lt h e;omega),hc]
theorem z1q {w6:World}{v6:Value}{T':List ByteArray}(B:BldL W base b nv (.slice At n ct) (.slice Al n cl) on ot ol X T L inn deep)(F:Fr (fun _=>False) W P)(h6:Hid (∃o6,FirstT P w6 ot o6 v6 T')):
 w6.cell? ⟨b,1,none⟩=some (.slice At n ct)∧w6.cell? ⟨b,2,none⟩=some (.slice Al n cl):=by
 obtain⟨o6,h6⟩:=h6.out;have f:Fr (fun k=>ot=some k) W w6:=(F.mono (fun _ h=>h.elim)).trans h6.fr;have hb:¬ot=some b:=fun e=>(B.bt b e).2.1 rfl;exact⟨(f.cell B.lt hb).trans B.facts.2.1,(f.cell B.lt hb).trans B.facts.2.2.1⟩
theorem z4c {w7:World}{v1 v2:Value}{T':List ByteArray}{L':List Int}(B:BldL W base b nv (.slice At n ct) (.slice Al n cl) on ot ol X T L inn deep)(h7:Hid (∃ot' ol',TwoApp W w7 ot ol ot' ol' v1 v2 T' L')):
 w7.cell? ⟨b,1,none⟩=some (.slice At n ct)∧w7.cell? ⟨b,2,none⟩=some (.slice Al n cl)∧w7.cell? ⟨b,3,none⟩=some (.int .i64 inn)∧w7.cell? ⟨b,4,none⟩=some (.int .i64 (deep:Int))∧w7.frozen? ⟨b,1,none⟩=false∧w7.frozen? ⟨b,2,none⟩=false∧w7.frozen? ⟨b,3,none⟩=false∧w7.frozen? ⟨b,4,none⟩=false:=by
 obtain⟨ot',ol',h7⟩:=h7.out;have hb:¬(ot=some b∨ol=some b):=fun e=>e.elim (fun e=>(B.bt b e).2.1 rfl) (fun e=>(B.bl b e).2.1 rfl);obtain⟨-,c1,c2,c3,c4,cf⟩:=B.facts;exact⟨(h7.fr.cell B.lt hb).trans c1,(h7.fr.cell B.lt hb).trans c2,(h7.fr.cell B.lt hb).trans c3,(h7.fr.cell B.lt hb).trans c4,(h7.fr.frozen (p:=⟨b,1,none⟩) B.lt hb).trans (cf 1),(h7.fr.frozen (p:=⟨b,2,none⟩) B.lt hb).trans (cf 2),(h7.fr.frozen (p:=⟨b,3,none⟩) B.lt hb).trans (cf 3),(h7.fr.frozen (p:=⟨b,4,none⟩) B.lt hb).trans (cf 4)⟩
end
structure OpT (w w3:World)(base b:Nat)(st:BldM)(x:Tok)(A1:Option Addr)(c1:Nat)(o1:Option Nat)(inn:Int):Prop where
 fr:Fr (fun _=>False) w w3
 own:Own pairC w3 47 (.slice A1 (z01 x).length c1) o1 (z5f (z01 x))
 new:∀k,o1=some k→w.heap.size<k
 nm:w3.cell? ⟨w.heap.size,1,none⟩=some (.string (bs x.name))
 at_:w3.cell? ⟨w.heap.size,4,none⟩=some (.int .i64 (x.at_:Int))
def z1n (x:Tok)(A1:Option Addr)(c1:Nat)(o1:Option Nat)(inn:Int):NodeX:=⟨⟨bs x.name,A1,(z01 x).length,c1,⟨#[]⟩,inn, -1, -1,(x.at_:Int)⟩,o1,z5f (z01 x)⟩
theorem OpT.ok {w w3:World}{base b:Nat}{st:BldM}{x:Tok}{A1:Option Addr}{c1:Nat}{o1:Option Nat}{inn:Int}(h:OpT w w3 base b st x A1 c1 o1 inn):NodeOk w3 (z1n x A1 c1 o1 inn):=⟨(z5q _).length_eq.symm,h.own⟩
end Go.Proofs.YtnlacmnoocigiaaGreatDoor
namespace Go.Proofs.YtnlacmnoocigiaaGreatDoor
theorem zet {l t:List UInt8}(h:Dec l t):t.length≤4*l.length:=by
 induction h with
 |nil=>simp
 | @cons l t h0 h1 _ ih=>have h2:=zef l;have h3:=(z1u h0 h1 []).2.2.1;rw[List.length_drop] at ih;rw[List.length_append];omega
def sumT :List Tok→Nat
 |[]=>0
 |x::l=>x.text.length+sumT l
theorem zm6 :∀(l:List UInt8) (at_:Nat) (acc:List Tok),(tokS l at_ acc).2.2=0→∃more,(tokS l at_ acc).1=acc++more∧sumT more≤4*l.length∧more.length≤l.length:=by
 refine zim (fun at_ acc h=> ?_) (fun l h0 h1 ih at_ acc h=> ?_) (fun l h ih at_ acc h=> ?_) (fun l p e h1 h2 h3 at_ acc h=> ?_) (fun l kind name vs k h1 h2 h3 ih at_ acc h=> ?_)
 · exact⟨[],by simp[zap],by simp[sumT],by simp⟩
 · have hp:=z54 h0 h1;have hle:=z14 (· !=60) l;rw[z71 h0 h1] at h⊢;by_cases he:(z04 (l.takeWhile (· !=60))).2.2≠0
   · rw[if_pos he] at h;exact absurd h he
   · rw[if_neg he] at h⊢;obtain⟨more,g1,g2,g3⟩:=ih _ _ h;have hd:=zet (zbj (Decidable.not_not.1 he));refine⟨_::more,by rw[g1,List.append_assoc];rfl, ?_, ?_⟩
     · rw[sumT];rw[List.length_drop] at g2;simp only;omega
     · rw[List.length_drop] at g3;simp only[List.length_cons];omega
 · rename_i hr;have:=z3n l;rw[z4p hr] at h⊢;obtain⟨more,g1,g2,g3⟩:=ih _ _ h;rw[List.length_drop] at g2 g3;exact⟨more,g1,by omega,by omega⟩
 · rw[z56 h1 h2,h3] at h;exact absurd h (zaq h3).1
 · obtain⟨-, -,f3,f4, -⟩:=z9m h3;rw[z56 h1 h2,h3] at h⊢;obtain⟨more,g1,g2,g3⟩:=ih _ _ h;rw[List.length_drop] at g2 g3;refine⟨_::more,by rw[g1,List.append_assoc];rfl, ?_, ?_⟩
   · rw[sumT];simp only[List.length_nil];omega
   · simp only[List.length_cons];omega
theorem zdh {s:List UInt8}:∀{l:List Tok} {lo:Nat},ordT s lo l→∀x∈l,(1≤x.kind∧x.kind≤4)∧x.attrs.length≤32
 |[],_,_,x,hx=>by cases hx
 |t::r,lo,h,x,hx=>by
  rw[ordT] at h;rcases List.mem_cons.1 hx with rfl|hx
  · exact⟨h.2.2.1,h.2.2.2.2.2.1⟩
  · exact zdh h.2.2.2.2.2.2.2 x hx
theorem z7i {s:List UInt8}(h:(tokR s).2.2=0):(∀x∈(tokR s).1,(1≤x.kind∧x.kind≤4)∧x.attrs.length≤32)∧sumT (tokR s).1≤262144∧(tokR s).1.length≤65536:=by
 unfold tokR at h⊢;split
 · exact⟨fun x hx=>(by cases hx),by simp[sumT],by simp⟩
 · rename_i hs;rw[if_neg hs] at h;split
   · exact⟨fun x hx=>(by cases hx),by simp[sumT],by simp⟩
   · rename_i hv;rw[if_neg hv] at h;obtain⟨m1,g1,g2⟩:=zm1 s s 0 [] rfl h;obtain⟨m2,g3,g4,g5⟩:=zm6 s 0 [] h;rw[g1,List.nil_append];refine⟨fun x hx=>zdh g2 x hx, ?_, ?_⟩
     · rw[g1,List.nil_append,List.nil_append] at g3;rw[g3];omega
     · rw[g1,List.nil_append,List.nil_append] at g3;rw[g3];omega
theorem zm7 {b b':BldM}{x:Tok}{c:Nat}(hs:z1l b x=.inl b')(h:∀t∈b.texts,t.size≤c):∀t∈b'.texts,t.size≤c+x.text.length:=by
 have hop:∀b2,z0n b x=.inl b2→∀t∈b2.texts,t.size≤c+x.text.length:=by
  intro b2 ho t ht;unfold z0n at ho;split at ho
  · cases ho
  · split at ho
    · cases ho
    · simp only[Sum.inl.injEq] at ho;subst ho;rcases List.mem_append.1 ht with ht|ht
      · have:=h t ht;omega
      · rw[List.mem_singleton] at ht;subst ht;exact Nat.zero_le _
 unfold z1l at hs;split at hs
 · exact hop _ hs
 · split at hs
   · unfold z1r at hs;split at hs
     · cases hs
     · cases hs;intro t ht;have:=h t ht;omega
   · split at hs
     · unfold z4r at hs
       cases ho:z0n b x with
       |inr e=>rw[ho] at hs;cases hs
       |inl b2=>rw[ho] at hs;cases hs;exact hop b2 ho
     · unfold z6k at hs;split at hs
       · cases hs;intro t ht;rcases List.mem_or_eq_of_mem_set ht with ht|rfl
         · have:=h t ht;omega
         · have h1:(z11 b).size≤c:=by
            unfold z11
            cases hg:b.texts[b.inn.toNat]? with
            |none=>exact Nat.zero_le _
            |some u=>exact h u (List.mem_of_getElem? hg)
           have h2:(bs x.text).size=x.text.length:=by unfold bs;show x.text.toArray.size=_;simp
           rw[ByteArray.size_append];omega
       · split at hs
         · cases hs;intro t ht;have:=h t ht;omega
         · cases hs
theorem zpz {b:BldM}{c:Nat}(h:∀t∈b.texts,t.size≤c):(z11 b).size≤c:=by
 unfold z11
 cases hg:b.texts[b.inn.toNat]? with
 |none=>exact Nat.zero_le _
 |some u=>exact h u (List.mem_of_getElem? hg)
theorem z89 :∀(a b:List Tok),sumT (a++b)=sumT a+sumT b
 |[],b=>by simp[sumT]
 |x::a,b=>by rw[List.cons_append,sumT,sumT,z89 a b];omega
end Go.Proofs.YtnlacmnoocigiaaGreatDoor
