/- token: what stands next. -/
import Derived.Test.YtnlacmnoocigiaaGreatDoorTokF
import Derived.Test.YtnlacmnoocigiaaGreatDoorTokEg
namespace Go.Proofs.YtnlacmnoocigiaaGreatDoor
open Go.RowKit Go.Lib
attribute [local go_sem ↓] Go.wp_at_zero Go.wp_at_succ
def z6j (l:List UInt8):(Nat×List UInt8×List (List UInt8×List UInt8)×List UInt8×Nat) ⊕ (Nat×Int):=
 if l.head? =some 60 then match tagR l with
  |.inr x=>.inr x
  |.inl (kind,name,vs,k)=>.inl (kind,name,vs,[],k)
 else if(z04 (l.takeWhile (· !=60))).2.2≠0 then .inr ((z04 (l.takeWhile (· !=60))).2.1,(z04 (l.takeWhile (· !=60))).2.2)
 else .inl (4,[],[],(z04 (l.takeWhile (· !=60))).1,(l.takeWhile (· !=60)).length)
theorem zpd {l:List UInt8}(h0:l≠[])(hr:z0c l=0)(at_:Nat)(acc:List Tok):tokS l at_ acc=match z6j l with
 |.inr (p,e)=>([],at_+p,e)
 |.inl (kd,nm,vs,tx,k)=>tokS (l.drop k) (at_+k) (acc++[⟨kd,nm,vs,tx,at_⟩]):=by
 unfold z6j;by_cases hh:l.head? =some 60
 · rw[if_pos hh,z56 hh hr]
   cases tagR l with
   |inr x=>rfl
   |inl x=>rfl
 · rw[if_neg hh,z71 h0 hh];split
   · rfl
   · rfl
theorem ztb {l:List UInt8}(h0:l≠[]){kd:Nat}{nm:List UInt8}{vs:List (List UInt8×List UInt8)}{tx:List UInt8}{k:Nat}(h:z6j l=.inl (kd,nm,vs,tx,k)):0<k∧k≤l.length∧vs.length≤32:=by
 unfold z6j at h;split at h
 · cases ht:tagR l with
   |inr x=>rw[ht] at h;cases h
   |inl x=>obtain⟨a,b,c,d⟩:=x;rw[ht] at h;simp only[Sum.inl.injEq,Prod.mk.injEq] at h;obtain⟨rfl,rfl,rfl, -,rfl⟩:=h;obtain⟨-, -,g1,g2, -,g3, -⟩:=z9m ht;exact⟨by omega,g2,g3⟩
 · rename_i hh;split at h
   · cases h
   · simp only[Sum.inl.injEq,Prod.mk.injEq] at h;obtain⟨-, -,rfl, -,rfl⟩:=h;exact⟨z54 h0 hh,z14 _ _,by simp⟩
theorem zpe {l:List UInt8}{p:Nat}{e:Int}(h:z6j l=.inr (p,e)):e≠0∧p≤l.length:=by
 unfold z6j at h;split at h
 · cases ht:tagR l with
   |inr x=>rw[ht] at h;cases h;exact zaq ht
   |inl x=>rw[ht] at h;cases h
 · split at h
   · rename_i he;simp only[Sum.inr.injEq,Prod.mk.injEq] at h;obtain⟨rfl,rfl⟩:=h;have:=z2g (l.takeWhile (· !=60));have:=z14 (· !=60) l;exact⟨he,by omega⟩
   · cases h
theorem zxm (b n tb:Nat)(kd:Int)(r nm tx:ByteArray)(av:Value)(ta:Int)(w:World)(h:CutAt w b n r)(ht:TokAt w tb kd nm av tx ta)(hne:¬b=tb)(hst:St w)(hfree:Free b)(hfreet:Free tb)
 (h0:r.data.toList[0]? =some 60) (hg:tagP r.data.toList=none):
 Calls Tryz.prog 76 #[.pointer (some ⟨b,0,none⟩),.pointer (some ⟨tb,0,none⟩)] w fun e w'=>∃v r' k nm',e=.returned (.tuple #[v,.bool false])∧CutAt w' b n r'∧TokAt w' tb k nm' av tx ta∧Fr (fun k=>k=b∨k=tb) w w':=
 (zpc b n tb kd r nm tx av ta w h ht hne hst hfree hfreet h0).mono fun e w' ⟨hf,hm⟩=>by rw[hg] at hm;obtain⟨v,r',k,nm',h1,h2,h3⟩:=hm;exact⟨v,r',k,nm',h1,h2,h3,hf⟩
theorem zwe (b n tb:Nat)(kd:Int)(r nm tx:ByteArray)(av:Value)(ta:Int)(w:World)(h:CutAt w b n r)(ht:TokAt w tb kd nm av tx ta)(hne:¬b=tb)(hst:St w)(hfree:Free b)(hfreet:Free tb)
 (h0:r.data.toList[0]? =some 60) {kind:Nat} {name:List UInt8} {ats:List RawA} {k:Nat} (hg:tagP r.data.toList=some (kind,name,ats,k)):
 Calls Tryz.prog 76 #[.pointer (some ⟨b,0,none⟩),.pointer (some ⟨tb,0,none⟩)] w fun e w'=>∃v o,e=.returned (.tuple #[v,.bool true])∧CutAt w' b n ⟨(r.data.toList.drop k).toArray⟩∧TokAt w' tb kind ⟨name.toArray⟩ av tx ta∧
  Own rawC w' 170 v o (ats.map (rawV (n - r.data.toList.length)))∧(∀k,o=some k→w.heap.size≤k∧k<w'.heap.size)∧Fr (fun k=>k=b∨k=tb) w w':=
 (zpc b n tb kd r nm tx av ta w h ht hne hst hfree hfreet h0).mono fun e w' ⟨hf,hm⟩=>by rw[hg] at hm;obtain⟨v,o,h1,h2,h3,h4,h5⟩:=hm;exact⟨v,o,h1,h2,h3,h4,h5,hf⟩
theorem TokAt.store5 {w:World}{tb:Nat}{kind:Int}{name text:ByteArray}{av:Value}{ta:Int}(h:TokAt w tb kind name av text ta)(k:Int)(n:ByteArray)(v:Value)(x:ByteArray)(i:Int):
 ∃W,((((w.setCell ⟨tb,0,none⟩ (.int .u8 k)).setCell ⟨tb,1,none⟩ (.string n)).setCell ⟨tb,2,none⟩ v).setCell ⟨tb,3,none⟩ (.string x)).setCell ⟨tb,4,none⟩ (.int .i64 i)=W∧TokAt W tb k n v x i∧Fr (fun k=>k=tb) w W:=
 ⟨_,rfl,((((h.kind_ k).name_ n).attrs_ v).text_ x).at__ i,((((Fr.set_b w tb 0 _).trans (Fr.set_b _ tb 1 _)).trans (Fr.set_b _ tb 2 _)).trans (Fr.set_b _ tb 3 _)).trans (Fr.set_b _ tb 4 _)⟩
theorem zbs {w w1 W2:World}{b:Nat}{o:Obj}{v:Value}{oa:Option Nat}(f1:Fr (fun _=>False) (w.alloc o) w1)(h:∀k,oa=some k→(w1.setCell ⟨b,4,none⟩ v).heap.size≤k∧k<W2.heap.size):∀k,oa=some k→w.heap.size<k∧k<W2.heap.size:=fun k hk=>by have h1:=h k hk;have h2:=(Fr.set_b w1 b 4 v).size;have h3:=f1.size;simp at h3;exact⟨by omega,h1.2⟩
theorem zgh :∀(n:Nat) (l:List UInt8) (at_:Nat) (acc:List RawA) (kind:Nat) (ats:List RawA) (k:Nat),l.length≤n→z3v l at_ acc=some (kind,ats,k)→ats.length≤acc.length+l.length:=by
 intro n
 induction n with
 |zero=>intro l at_ acc kind ats k h0 h;have:l=[]:=List.eq_nil_of_length_eq_zero (by omega);subst this;rw[z2u] at h;simp[nB] at h
 |succ n ih=>
  intro l at_ acc kind ats k hn h;rw[z2u] at h;split at h
  · simp only[Option.some.injEq,Prod.mk.injEq] at h;obtain⟨rfl,rfl,rfl⟩:=h;omega
  · split at h
    · simp only[Option.some.injEq,Prod.mk.injEq] at h;obtain⟨rfl,rfl,rfl⟩:=h;omega
    · split at h
      · cases h
      · rename_i h1
        cases ha:z1p (l.drop (nB l)) with
        |none=>rw[ha] at h;cases h
        |some x=>obtain⟨a,j⟩:=x;rw[ha] at h;simp only at h;have hlen:=z5o ha;rw[List.length_drop] at hlen;have:=ih _ _ _ _ _ _ (by rw[List.length_drop];omega) h;rw[List.length_drop,List.length_append] at this;simp only[List.length_cons,List.length_nil] at this;omega
theorem zdc {l:List UInt8}{kind:Nat}{name:List UInt8}{ats:List RawA}{k:Nat}(h:tagP l=some (kind,name,ats,k)):ats.length≤l.length:=by
 rw[z9l] at h;split at h
 · split at h
   · cases h
   · simp only[Option.some.injEq,Prod.mk.injEq] at h;obtain⟨-, -,rfl, -⟩:=h;exact Nat.zero_le _
 · split at h
   · cases h
   · cases ha:z3v (l.drop (1+z03 (l.drop 1))) (1+z03 (l.drop 1)) [] with
     |none=>rw[ha] at h;cases h
     |some x=>obtain⟨a,b,c⟩:=x;rw[ha] at h;simp only[Option.some.injEq,Prod.mk.injEq] at h;obtain⟨-, -,rfl, -⟩:=h;have:=zgh _ _ _ _ _ _ _ (Nat.le_refl _) ha;rw[List.length_drop] at this;simp only[List.length_nil] at this;omega
theorem zgi (l:List UInt8)(c:UInt8):Lib.indexByte l c=if c∈l then((l.takeWhile (· !=c)).length:Int) else -1:=by
 have h0:=Lib.indexByte_ge l c;have hm:=z8w l c;by_cases h:c∈l
 · rw[if_pos h];rw[decide_eq_true h] at hm;have h1:0≤Lib.indexByte l c:=of_decide_eq_true hm;obtain⟨o,ho⟩:∃o:Nat,Lib.indexByte l c=o:=⟨(Lib.indexByte l c).toNat,by omega⟩;obtain⟨g1,g2⟩:=Lib.indexByte_some ho;rw[ho]
   have:l.takeWhile (· !=c)=l.take o:=by
    have hs:=zeb g1;have hno:c ∉ l.take o:=fun hc=>by obtain⟨i,hi,he⟩:=List.getElem_of_mem hc;rw[List.length_take] at hi;refine g2 i (by omega) ?_;rw[←he,List.getElem_take];exact List.getElem?_eq_getElem (by omega)
    rw[hs]
    conv=>rhs;rw[←hs]
    exact z6w hno
   rw[this,List.length_take];have:=(List.getElem?_eq_some_iff.1 g1).1;omega
 · rw[if_neg h];rw[decide_eq_false h] at hm;have h1:¬0≤Lib.indexByte l c:=of_decide_eq_false hm;omega
def zpf (b n:Nat)(l:List UInt8)(w:World)(e:Ending)(w':World):Prop:=
 Fr (fun k=>k=b) w w'∧match z6j l with
 |.inr (off,er)=>∃(k:Int) (nm tx:ByteArray) (A:Option Addr) (m c:Nat) (i:Int) (r':ByteArray),e=.returned (.tuple #[.agg #[.int .u8 k,.string nm,.slice A m c,.string tx,.int .i64 i],.int .i64 ((n - l.length+off:Nat):Int),.int .i64 er])∧CutAt w' b n r'
 |.inl (kd,nm,vs,tx,k)=>∃(A:Option Addr) (c:Nat) (oa:Option Nat) (i2:Int),e=.returned (.tuple #[.agg #[.int .u8 kd,.string ⟨nm.toArray⟩,.slice A vs.length c,.string ⟨tx.toArray⟩,.int .i64 ((n - l.length:Nat):Int)],.int .i64 i2,.int .i64 0])∧
  CutAt w' b n ⟨(l.drop k).toArray⟩∧Own pairC w' 47 (.slice A vs.length c) oa (vs.map z3d)∧(∀k,oa=some k→w.heap.size≤k∧k<w'.heap.size)
set_option maxRecDepth 100000 in
set_option maxHeartbeats 8000000 in
theorem zgj (b n:Nat)(r:ByteArray)(w:World)(h:CutAt w b n r)(hst:St w)(hfree:Free b)(hn:n≤70000)(h0:0<r.size):
 Calls Tryz.prog 47 #[.pointer (some ⟨b,0,none⟩)] w fun e w'=>zpf b n r.data.toList w e w':=by
 have hl:r.data.toList.length=r.size:=rfl;have hle:=h.le;have HB:=hide h.lt;have hi0:(0:Int)<r.size:=by omega
 have hget:=z0y r 0 h0;have hfreet:Free w.heap.size:=hst.free (Nat.le_refl _);have hbn:¬b=w.heap.size:=by have:=h.lt;omega
 have hbn':¬w.heap.size=b:=fun e=>hbn e.symm;obtain⟨p,hp⟩:∃p:Nat,n - r.size=p:=⟨_,rfl⟩;have HA:=hide (fun W hW=>zui b n r W hW);rw[hp] at HA;have C0:=hide (h.same (Fr.alloc (Fr.refl (fun _=>False) w) (.cells #[.int .u8 0,.string ⟨#[]⟩,.slice none 0 0,.string ⟨#[]⟩,.int .i64 0] 76)));have T0:=hide (show TokAt (w.alloc (.cells #[.int .u8 0,.string ⟨#[]⟩,.slice none 0 0,.string ⟨#[]⟩,.int .i64 0] 76)) w.heap.size 0 ⟨#[]⟩ (.slice none 0 0) ⟨#[]⟩ 0 from⟨heap_alloc_new w _⟩);have HST:=hide (fun(W:World) (f:Fr (fun k=>k=b∨k=w.heap.size) w W)=>hst.fr f (fun k hk=>by rcases hk with rfl|rfl;exact hfree;exact hfreet));clear h;by_cases h60:r[0]'h0=60
 · have hh:r.data.toList[0]? =some 60:=by rw[hget,h60]
   have hhd:r.data.toList.head? =some 60:=by rw[←hh,List.head?_eq_getElem?]
   have b60:((r[0]'h0).toNat:Int)=60:=by rw[h60];rfl
   have hsk:z6j r.data.toList=match tagR r.data.toList with
    |.inr x=>.inr x
    |.inl (kind,name,vs,k)=>.inl (kind,name,vs,[],k):=by unfold z6j;rw[if_pos hhd]
   cases hg:tagP r.data.toList with
   |none=>
    have hsk2:z6j r.data.toList=.inr (0,40):=by
     have:tagR r.data.toList=.inr (0,40):=by unfold tagR;rw[hg]
     rw[hsk,this]
    have HSK:=hide hsk2;have HTG:=hide (fun W kd (nm tx:ByteArray) av (ta:Int) hW ht hs=>zxm b n w.heap.size kd r nm tx av ta W hW ht hbn hs hfree hfreet hh hg);have HP:=hide hp;clear hsk hsk2 hg hh hhd hget h60 hl hp;go_enter Tryz.func47,Tryz.ntmps47
    go_wp2_with (first
     |(go_at_call 75;refine(HA.out _ C0.out).mono ?_;rintro e w1 ⟨rfl,f1⟩;have t0:=T0.out.fr f1 (fun h=>h);obtain⟨y0,y1,y2,y3,y4,y5⟩:=t0.facts;have t1:=t0.at__ (p:Int);have c1:=(C0.out.same f1).fr (Fr.set_b w1 w.heap.size 4 (.int .i64 (p:Int))) hbn;have k1:=c1.c1;have g1:=hide ((((Fr.refl (fun k=>k=b) w).alloc (.cells #[.int .u8 0,.string ⟨#[]⟩,.slice none 0 0,.string ⟨#[]⟩,.int .i64 0] 76)).trans f1.into).then_ (Fr.set_b w1 w.heap.size 4 (.int .i64 (p:Int))) (fun k h1 h2=>by omega)))
     |(go_at_call 76;refine(HTG.out _ _ _ _ _ _ c1 t1 (HST.out _ (g1.out.l))).mono ?_;rintro e w2 ⟨v,r',kk,nm',rfl,c2,t2,f2⟩;obtain⟨z0,z1,z2,z3,z4,z5⟩:=t2.facts))
    obtain⟨W,hW,t9,g9⟩:=t2.store5 kk nm' (.slice none 0 0) ⟨#[]⟩ (p:Int);rw[hW];obtain⟨a0,a1,a2,a3,a4, -⟩:=t9.facts;refine bodyPost_ret (v:=.tuple #[.agg #[.int .u8 kk,.string nm',.slice none 0 0,.string ⟨#[]⟩,.int .i64 p],.int .i64 p,.int .i64 40]) (by simp[results,Tryz.results47,go_sem,a0,a1,a2,a3,a4]) rfl ?_;refine⟨((g1.out.l.trans f2).then_ g9 (fun k h1 h2=>.inr h2)).monoLt (fun k h1 h2=>by rcases h2 with h2|h2;exact h2;omega), ?_⟩;rw[HSK.out];exact⟨kk,nm',⟨#[]⟩,none,0,0,p,r',by rw[show n - r.data.toList.length+0=p from HP.out],c2.fr g9 hbn⟩
   |some x=>
    obtain⟨kind,name,ats,k⟩:=x;obtain⟨tf1,tf2,tf3,tf4,tf5,tf6, -⟩:=z4g hg;have hty:=fun W kd (nm tx:ByteArray) av (ta:Int) hW ht hs=>zwe b n w.heap.size kd r nm tx av ta W hW ht hbn hs hfree hfreet hh hg;rw[hl,hp] at hty;obtain⟨nn,hnn⟩:∃nn:ByteArray,(⟨name.toArray⟩:ByteArray)=nn:=⟨_,rfl⟩;obtain⟨r4,hr4⟩:∃r4:ByteArray,(⟨(r.data.toList.drop k).toArray⟩:ByteArray)=r4:=⟨_,rfl⟩;rw[hnn,hr4] at hty;have HTG:=hide hty;have hkn:k≤n:=by omega
    have hats:ats.length≤1000000:=by exact Nat.le_trans (zdc hg) (by omega)
    have HRD:=hide (fun(W:World) (v:Value) (o:Option Nat) (ht:TokAt W w.heap.size kind nn (.slice none 0 0) ⟨#[]⟩ p) (hm:Own rawC W 170 v o (ats.map (rawV p))) (ho:∀k,o=some k→w.heap.size<k∧k<W.heap.size) (hs:St W)=>
     zt9 w.heap.size p kind nn ⟨#[]⟩ p v ats (fun k=>o=some k) W ht hm.rd (fun k hk=>⟨(ho k hk).2,by have:=(ho k hk).1;omega⟩) hs hfreet hats (fun a ha=>by have:=tf6 a ha;omega))
    have htr:tagR r.data.toList=match z26 ats with
     |.inr x=>.inr x
     |.inl vs=>if 32<vs.length then .inr (0,3) else .inl (kind,name,vs,k):=by unfold tagR;simp only[hg];cases z26 ats<;>rfl
    have HP:=hide hp;have HN:=hide (And.intro hnn hr4);have HL:=hide hl
    cases hrp:z26 ats with
    |inr y=>
     obtain⟨off,er⟩:=y;rw[hrp] at htr;have hsk2:z6j r.data.toList=.inr (off,er):=by rw[hsk,htr]
     have HSK:=hide hsk2;rw[hrp] at HRD;clear hsk hsk2 hg hh hhd hget h60 hl hp hty hnn hr4 hats htr tf1 tf2 tf3 tf4 tf5 tf6 hkn hrp;go_enter Tryz.func47,Tryz.ntmps47
     go_wp2_with (first
      |(go_at_call 75;refine(HA.out _ C0.out).mono ?_;rintro e w1 ⟨rfl,f1⟩;have t0:=T0.out.fr f1 (fun h=>h);obtain⟨y0,y1,y2,y3,y4,y5⟩:=t0.facts;have t1:=t0.at__ (p:Int);have c1:=(C0.out.same f1).fr (Fr.set_b w1 w.heap.size 4 (.int .i64 (p:Int))) hbn;have k1:=c1.c1;have g1:=hide ((((Fr.refl (fun k=>k=b) w).alloc (.cells #[.int .u8 0,.string ⟨#[]⟩,.slice none 0 0,.string ⟨#[]⟩,.int .i64 0] 76)).trans f1.into).then_ (Fr.set_b w1 w.heap.size 4 (.int .i64 (p:Int))) (fun k h1 h2=>by omega)))
      |(go_at_call 76;refine(HTG.out _ _ _ _ _ _ c1 t1 (HST.out _ (g1.out.l))).mono ?_;rintro e w2 ⟨v,o,rfl,c2,t2,m2,o2,f2⟩;have F2:=hide (g1.out.l.trans f2);have o2':=hide (zbs f1 o2))
      |(go_at_call 77;refine(HRD.out _ _ _ t2 m2 (fun k hk=>⟨(o2'.out k hk).1,(o2'.out k hk).2⟩) (HST.out _ F2.out)).mono ?_;rintro e w3 ⟨f3,rfl,A3,m3,c3,t3⟩;obtain⟨z0,z1,z2,z3,z4,z5⟩:=t3.facts))
     obtain⟨W,hW,t9,g9⟩:=t3.store5 kind nn (.slice A3 m3 c3) ⟨#[]⟩ (p:Int);rw[hW];obtain⟨a0,a1,a2,a3,a4, -⟩:=t9.facts;refine bodyPost_ret (v:=.tuple #[.agg #[.int .u8 kind,.string nn,.slice A3 m3 c3,.string ⟨#[]⟩,.int .i64 p],.int .i64 ((p+off:Nat):Int),.int .i64 er]) (by simp[results,Tryz.results47,go_sem,a0,a1,a2,a3,a4]) rfl ?_;refine⟨((F2.out.trans f3.r).then_ g9 (fun k h1 h2=>.inr h2)).monoLt (fun k h1 h2=>by rcases h2 with h2|h2;exact h2;omega), ?_⟩;rw[HSK.out];exact⟨kind,nn,⟨#[]⟩,A3,m3,c3,p,r4,by rw[show n - r.data.toList.length=p from HP.out],(c2.fr f3 hbn).fr g9 hbn⟩
    |inl vs=>
     rw[hrp] at htr;simp only at htr;rw[hrp] at HRD;by_cases h32:32<vs.length
     · rw[if_pos h32] at htr;have hsk2:z6j r.data.toList=.inr (0,3):=by rw[hsk,htr]
       have HSK:=hide hsk2;have H32:=hide h32;clear hsk hsk2 hg hh hhd hget h60 hl hp hty hnn hr4 hats htr tf1 tf2 tf3 tf4 tf5 tf6 hkn hrp h32;go_enter Tryz.func47,Tryz.ntmps47
       go_wp2_with (first
        |(go_at_call 75;refine(HA.out _ C0.out).mono ?_;rintro e w1 ⟨rfl,f1⟩;have t0:=T0.out.fr f1 (fun h=>h);obtain⟨y0,y1,y2,y3,y4,y5⟩:=t0.facts;have t1:=t0.at__ (p:Int);have c1:=(C0.out.same f1).fr (Fr.set_b w1 w.heap.size 4 (.int .i64 (p:Int))) hbn;have k1:=c1.c1;have g1:=hide ((((Fr.refl (fun k=>k=b) w).alloc (.cells #[.int .u8 0,.string ⟨#[]⟩,.slice none 0 0,.string ⟨#[]⟩,.int .i64 0] 76)).trans f1.into).then_ (Fr.set_b w1 w.heap.size 4 (.int .i64 (p:Int))) (fun k h1 h2=>by omega)))
        |(go_at_call 76;refine(HTG.out _ _ _ _ _ _ c1 t1 (HST.out _ (g1.out.l))).mono ?_;rintro e w2 ⟨v,o,rfl,c2,t2,m2,o2,f2⟩;have F2:=hide (g1.out.l.trans f2);have o2':=hide (zbs f1 o2))
        |(go_at_call 77;refine(HRD.out _ _ _ t2 m2 (fun k hk=>⟨(o2'.out k hk).1,(o2'.out k hk).2⟩) (HST.out _ F2.out)).mono ?_;rintro e w3 ⟨f3,rfl,A3,c3,oa,t3,own3,new3⟩;rw[if_pos H32.out];obtain⟨z0,z1,z2,z3,z4,z5⟩:=t3.facts))
       obtain⟨W,hW,t9,g9⟩:=t3.store5 kind nn (.slice A3 vs.length c3) ⟨#[]⟩ (p:Int);rw[hW];obtain⟨a0,a1,a2,a3,a4, -⟩:=t9.facts;refine bodyPost_ret (v:=.tuple #[.agg #[.int .u8 kind,.string nn,.slice A3 vs.length c3,.string ⟨#[]⟩,.int .i64 p],.int .i64 p,.int .i64 3]) (by simp[results,Tryz.results47,go_sem,a0,a1,a2,a3,a4]) rfl ?_;refine⟨((F2.out.trans f3.r).then_ g9 (fun k h1 h2=>.inr h2)).monoLt (fun k h1 h2=>by rcases h2 with h2|h2;exact h2;omega), ?_⟩;rw[HSK.out];exact⟨kind,nn,⟨#[]⟩,A3,vs.length,c3,p,r4,by rw[show n - r.data.toList.length+0=p from HP.out],(c2.fr f3 hbn).fr g9 hbn⟩
     · rw[if_neg h32] at htr;have hsk2:z6j r.data.toList=.inl (kind,name,vs,[],k):=by rw[hsk,htr]
       have HSK:=hide hsk2;have H32:=hide h32;clear hsk hsk2 hg hh hhd hget h60 hl hp hty hnn hr4 hats htr tf1 tf2 tf3 tf4 tf5 tf6 hkn hrp h32;go_enter Tryz.func47,Tryz.ntmps47
       go_wp2_with (first
        |(go_at_call 75;refine(HA.out _ C0.out).mono ?_;rintro e w1 ⟨rfl,f1⟩;have t0:=T0.out.fr f1 (fun h=>h);obtain⟨y0,y1,y2,y3,y4,y5⟩:=t0.facts;have t1:=t0.at__ (p:Int);have c1:=(C0.out.same f1).fr (Fr.set_b w1 w.heap.size 4 (.int .i64 (p:Int))) hbn;have k1:=c1.c1;have g1:=hide ((((Fr.refl (fun k=>k=b) w).alloc (.cells #[.int .u8 0,.string ⟨#[]⟩,.slice none 0 0,.string ⟨#[]⟩,.int .i64 0] 76)).trans f1.into).then_ (Fr.set_b w1 w.heap.size 4 (.int .i64 (p:Int))) (fun k h1 h2=>by omega)))
        |(go_at_call 76;refine(HTG.out _ _ _ _ _ _ c1 t1 (HST.out _ (g1.out.l))).mono ?_;rintro e w2 ⟨v,o,rfl,c2,t2,m2,o2,f2⟩;have F2:=hide (g1.out.l.trans f2);have o2':=hide (zbs f1 o2))
        |(go_at_call 77;refine(HRD.out _ _ _ t2 m2 (fun k hk=>⟨(o2'.out k hk).1,(o2'.out k hk).2⟩) (HST.out _ F2.out)).mono ?_;rintro e w3 ⟨f3,rfl,A3,c3,oa,t3,own3,new3⟩;rw[if_neg H32.out];obtain⟨z0,z1,z2,z3,z4,z5⟩:=t3.facts))
       obtain⟨W,hW,t9,g9⟩:=t3.store5 kind nn (.slice A3 vs.length c3) ⟨#[]⟩ (p:Int);rw[hW];obtain⟨a0,a1,a2,a3,a4, -⟩:=t9.facts;refine bodyPost_ret (v:=.tuple #[.agg #[.int .u8 kind,.string nn,.slice A3 vs.length c3,.string ⟨#[]⟩,.int .i64 p],.int .i64 0,.int .i64 0]) (by simp[results,Tryz.results47,go_sem,a0,a1,a2,a3,a4]) rfl ?_;refine⟨((F2.out.trans f3.r).then_ g9 (fun k h1 h2=>.inr h2)).monoLt (fun k h1 h2=>by rcases h2 with h2|h2;exact h2;omega), ?_⟩;rw[HSK.out];have hs2:=F2.out.size;have hlt2:w.heap.size<w2.heap.size:=by have:=t2.lt;exact this
       refine⟨A3,c3,oa,0,by rw[show n - r.data.toList.length=p from HP.out,HN.out.1],by rw[HN.out.2];exact(c2.fr f3 hbn).fr g9 hbn,own3.fr g9 (fun k hk e=>by have:=(new3 k hk).1;omega),fun k hk=> ?_⟩;have:=new3 k hk;have:=g9.size;exact⟨by omega,by omega⟩
 · have hh:r.data.toList.head? ≠some 60:=by rw[List.head?_eq_getElem?,hget];intro e;exact h60 (Option.some.inj e)
   have hle2:=z14 (· !=60) r.data.toList;obtain⟨tv,htv⟩:∃tv:ByteArray,tv=r.extract 0 (r.data.toList.takeWhile (· !=60)).length:=⟨_,rfl⟩;have htl:tv.data.toList=r.data.toList.takeWhile (· !=60):=by rw[htv,z08,List.drop_zero,Nat.sub_zero];exact(List.prefix_iff_eq_take.1 (List.takeWhile_prefix _)).symm
   obtain⟨rr,hrr⟩:∃rr:ByteArray,rr=r.extract (r.data.toList.takeWhile (· !=60)).length r.size:=⟨_,rfl⟩;have hrl:rr.data.toList=r.data.toList.drop (r.data.toList.takeWhile (· !=60)).length:=by rw[hrr,z08,List.take_of_length_le (by rw[List.length_drop];omega)]
   have hix:Lib.indexByte r.data.toList 60=if(60:UInt8)∈r.data.toList then((r.data.toList.takeWhile (· !=60)).length:Int) else -1:=zgi _ _;have htz:tv.data.toList.length=tv.size:=rfl;have hd:=fun W hW=>zd4 tv W hW (by rw[←htz,htl];omega);rw[htl] at hd;unfold wp3 at hd;have hplace:=z2g (r.data.toList.takeWhile (· !=60));have hib:=fun W=>Tryz.strings_IndexByte r 60 W;rw[show ((60:Int).toNat.toUInt8)=(60:UInt8) from rfl,hix] at hib;obtain⟨N,hN⟩:∃N,(r.data.toList.takeWhile (· !=60)).length=N:=⟨_,rfl⟩
   have hmem:((60:UInt8)∈r.data.toList)∨((60:UInt8) ∉ r.data.toList∧N=r.size):=by
    by_cases hm:(60:UInt8)∈r.data.toList
    · exact .inl hm
    · refine .inr ⟨hm, ?_⟩;rw[←hN,z5d hm];exact hl
   have hsk:z6j r.data.toList=if(z04 (r.data.toList.takeWhile (· !=60))).2.2≠0 then .inr ((z04 (r.data.toList.takeWhile (· !=60))).2.1,(z04 (r.data.toList.takeWhile (· !=60))).2.2) else .inl (4,[],[],(z04 (r.data.toList.takeWhile (· !=60))).1,(r.data.toList.takeWhile (· !=60)).length):=by unfold z6j;rw[if_neg hh]
   rw[hN] at hle2 htv hrr hib hrl hsk hplace;have hrz:rr.size≤n:=by have:rr.data.toList.length=rr.size:=rfl;rw[hrl,List.length_drop] at this;omega
   have HRR:=hide (And.intro hrz (show rr=⟨(r.data.toList.drop N).toArray⟩ from by rw[←hrl,z5b]));have hsl1:∀W:World,(Instr.slice 9 (.string r) none (some (.int .i64 (N:Int))) none).run Tryz.prog W=.ok (.string tv) W:=fun W=>by rw[run_slice_string_h (P:=Tryz.prog) W 9 r Tryz.underlying9 .i64 _ (by omega) (by omega),Int.toNat_natCast,htv]
   have hsl2:∀W:World,(Instr.slice 9 (.string r) (some (.int .i64 (N:Int))) none none).run Tryz.prog W=.ok (.string rr) W:=fun W=>by rw[run_slice_string_l (P:=Tryz.prog) W 9 r Tryz.underlying9 .i64 _ (by omega) (by omega),Int.toNat_natCast,hrr]
   have HP:=hide hp;have b60:(((r[0]'h0).toNat:Int)==60)=false:=by rw[beq_eq_false_iff_ne];intro e;exact h60 (UInt8.toNat_inj.1 (by show _=60;omega))
   obtain⟨dt,hdt⟩:∃dt:ByteArray,(⟨(z04 (r.data.toList.takeWhile (· !=60))).1.toArray⟩:ByteArray)=dt:=⟨_,rfl⟩;rw[hdt] at hd;obtain⟨dk,hdk⟩:∃dk,(z04 (r.data.toList.takeWhile (· !=60))).2.1=dk:=⟨_,rfl⟩;obtain⟨de,hde⟩:∃de,(z04 (r.data.toList.takeWhile (· !=60))).2.2=de:=⟨_,rfl⟩;rw[hdk,hde] at hd;rw[hdk,hde] at hsk;rw[hdk] at hplace;have HSK:=hide hsk;have HDT:=hide hdt;have HD:=hide hd;have HSL:=hide (And.intro hsl1 hsl2);have hN0:0≤(N:Int):=by omega
   have hdk2:dk≤70000:=by omega
   have hpn:p≤70000:=by omega
   rcases hmem with hm|⟨hm,hNr⟩
   · rw[if_pos hm] at hib;have HIB:=hide hib;clear hib hd hsk hdt hdk hde hplace hrz hrl htl htz htv hrr hix hle2 hget hh h60 hl hp hsl1 hsl2 hN hm;have hsl1:=HSL.out.1;have hsl2:=HSL.out.2;go_enter Tryz.func47,Tryz.ntmps47
     go_wp2_with (first
      |(go_at_call 75;refine(HA.out _ C0.out).mono ?_;rintro e w1 ⟨rfl,f1⟩;have t0:=T0.out.fr f1 (fun h=>h);obtain⟨y0,y1,y2,y3,y4,y5⟩:=t0.facts;have t1:=t0.at__ (p:Int);have c1:=(C0.out.same f1).fr (Fr.set_b w1 w.heap.size 4 (.int .i64 (p:Int))) hbn;have k1:=c1.c1;have g1:=hide ((((Fr.refl (fun k=>k=b) w).alloc (.cells #[.int .u8 0,.string ⟨#[]⟩,.slice none 0 0,.string ⟨#[]⟩,.int .i64 0] 76)).trans f1.into).then_ (Fr.set_b w1 w.heap.size 4 (.int .i64 (p:Int))) (fun k h1 h2=>by omega)))
      |(go_at_call 78;refine(HIB.out _).mono ?_;rintro e w2 ⟨rfl,hw2⟩;subst hw2)
      |(go_at_call 79;refine(HD.out _ (HST.out _ (g1.out.l.trans (Fr.set_b _ w.heap.size 0 (.int .u8 4)).r))).mono ?_;rintro e w3 ⟨rfl,f3⟩;have c3:=(c1.fr (Fr.set_b _ w.heap.size 0 (.int .u8 4)) hbn).same f3;have t3:=(t1.kind_ 4).fr f3 (fun h=>h);obtain⟨z0,z1,z2,z3,z4,z5⟩:=t3.facts;have t4:=t3.text_ dt;have c4:=c3.fr (Fr.set_b w3 w.heap.size 3 (.string dt)) hbn;have k4:=c4.c1;have y4:=c4.fz;have g4:=hide ((((g1.out.l (tb:=w.heap.size)).trans (Fr.set_b _ w.heap.size 0 (.int .u8 4)).r).trans (f3.mono (fun _ h=>h.elim))).trans (Fr.set_b w3 w.heap.size 3 (.string dt)).r);have t5:=t4.fr (Fr.set_b _ b 1 (.string rr)) hbn';obtain⟨x0,x1,x2,x3,x4,x5⟩:=t5.facts;have c5:=c4.set (r':=rr) HRR.out.1;have g5:=hide (g4.out.trans (Fr.set_b _ b 1 (.string rr)).l)))
     obtain⟨W,hW,t9,g9⟩:=t5.store5 4 ⟨#[]⟩ (.slice none 0 0) dt (p:Int);rw[hW];obtain⟨a0,a1,a2,a3,a4, -⟩:=t9.facts;refine bodyPost_ret (v:=.tuple #[.agg #[.int .u8 4,.string ⟨#[]⟩,.slice none 0 0,.string dt,.int .i64 p],.int .i64 ((p:Int)+dk),.int .i64 de]) (by simp[results,Tryz.results47,go_sem,a0,a1,a2,a3,a4]) rfl ?_;refine⟨((g5.out).then_ g9 (fun k h1 h2=>.inr h2)).monoLt (fun k h1 h2=>by rcases h2 with h2|h2;exact h2;omega), ?_⟩;by_cases hz:de=0
     · rw[HSK.out,if_neg (by simpa using hz)];refine⟨none,0,none,(p:Int)+dk,by rw[show n - r.data.toList.length=p from HP.out,HDT.out,hz];rfl,by rw[←HRR.out.2];exact c5.fr g9 hbn,Own.nil_ _ _ _ _,fun k hk=>by cases hk⟩
     · rw[HSK.out,if_pos (by simpa using hz)];exact⟨4,⟨#[]⟩,dt,none,0,0,p,rr,by rw[show n - r.data.toList.length=p from HP.out,Int.natCast_add],c5.fr g9 hbn⟩
   · rw[if_neg hm] at hib;have HIB:=hide hib;clear hib hd hsk hdt hdk hde hplace hrz hrl htl htz htv hrr hix hle2 hget hh h60 hl hp hsl1 hsl2 hN hm;subst hNr;have hsl1:=HSL.out.1;have hsl2:=HSL.out.2;go_enter Tryz.func47,Tryz.ntmps47
     go_wp2_with (first
      |(go_at_call 75;refine(HA.out _ C0.out).mono ?_;rintro e w1 ⟨rfl,f1⟩;have t0:=T0.out.fr f1 (fun h=>h);obtain⟨y0,y1,y2,y3,y4,y5⟩:=t0.facts;have t1:=t0.at__ (p:Int);have c1:=(C0.out.same f1).fr (Fr.set_b w1 w.heap.size 4 (.int .i64 (p:Int))) hbn;have k1:=c1.c1;have g1:=hide ((((Fr.refl (fun k=>k=b) w).alloc (.cells #[.int .u8 0,.string ⟨#[]⟩,.slice none 0 0,.string ⟨#[]⟩,.int .i64 0] 76)).trans f1.into).then_ (Fr.set_b w1 w.heap.size 4 (.int .i64 (p:Int))) (fun k h1 h2=>by omega)))
      |(go_at_call 78;refine(HIB.out _).mono ?_;rintro e w2 ⟨rfl,hw2⟩;subst hw2)
      |(go_at_call 79;refine(HD.out _ (HST.out _ (g1.out.l.trans (Fr.set_b _ w.heap.size 0 (.int .u8 4)).r))).mono ?_;rintro e w3 ⟨rfl,f3⟩;have c3:=(c1.fr (Fr.set_b _ w.heap.size 0 (.int .u8 4)) hbn).same f3;have t3:=(t1.kind_ 4).fr f3 (fun h=>h);obtain⟨z0,z1,z2,z3,z4,z5⟩:=t3.facts;have t4:=t3.text_ dt;have c4:=c3.fr (Fr.set_b w3 w.heap.size 3 (.string dt)) hbn;have k4:=c4.c1;have y4:=c4.fz;have g4:=hide ((((g1.out.l (tb:=w.heap.size)).trans (Fr.set_b _ w.heap.size 0 (.int .u8 4)).r).trans (f3.mono (fun _ h=>h.elim))).trans (Fr.set_b w3 w.heap.size 3 (.string dt)).r);have t5:=t4.fr (Fr.set_b _ b 1 (.string rr)) hbn';obtain⟨x0,x1,x2,x3,x4,x5⟩:=t5.facts;have c5:=c4.set (r':=rr) HRR.out.1;have g5:=hide (g4.out.trans (Fr.set_b _ b 1 (.string rr)).l)))
     obtain⟨W,hW,t9,g9⟩:=t5.store5 4 ⟨#[]⟩ (.slice none 0 0) dt (p:Int);rw[hW];obtain⟨a0,a1,a2,a3,a4, -⟩:=t9.facts;refine bodyPost_ret (v:=.tuple #[.agg #[.int .u8 4,.string ⟨#[]⟩,.slice none 0 0,.string dt,.int .i64 p],.int .i64 ((p:Int)+dk),.int .i64 de]) (by simp[results,Tryz.results47,go_sem,a0,a1,a2,a3,a4]) rfl ?_;refine⟨((g5.out).then_ g9 (fun k h1 h2=>.inr h2)).monoLt (fun k h1 h2=>by rcases h2 with h2|h2;exact h2;omega), ?_⟩;by_cases hz:de=0
     · rw[HSK.out,if_neg (by simpa using hz)];refine⟨none,0,none,(p:Int)+dk,by rw[show n - r.data.toList.length=p from HP.out,HDT.out,hz];rfl,by rw[←HRR.out.2];exact c5.fr g9 hbn,Own.nil_ _ _ _ _,fun k hk=>by cases hk⟩
     · rw[HSK.out,if_pos (by simpa using hz)];exact⟨4,⟨#[]⟩,dt,none,0,0,p,rr,by rw[show n - r.data.toList.length=p from HP.out,Int.natCast_add],c5.fr g9 hbn⟩
end Go.Proofs.YtnlacmnoocigiaaGreatDoor
namespace Go.Proofs.YtnlacmnoocigiaaGreatDoor
open Go.RowKit Go.Lib
attribute [local go_sem ↓] Go.wp_at_zero Go.wp_at_succ
structure TokV where
 kind:Int
 name:ByteArray
 A:Option Addr
 m:Nat
 c:Nat
 text:ByteArray
 at_:Int
def tokC :Cod TokV where
 size:=5
 cells x:=[.int .u8 x.kind,.string x.name,.slice x.A x.m x.c,.string x.text,.int .i64 x.at_]
 len _:=rfl
 one x u hu:=by simp only[List.mem_cons,List.not_mem_nil,or_false] at hu;rcases hu with rfl|rfl|rfl|rfl|rfl<;>rfl
 pos:=by decide
theorem zxn :El Tryz.prog 66 76 5 72:=El.mk (.agg #[.int .u8 0,.string ⟨#[]⟩,.slice none 0 0,.string ⟨#[]⟩,.int .i64 0]) Tryz.underlying66 (by kernel_rfl) rfl
theorem zxo (w:World)(o:Obj)(x:TokV)(E:TypeId):Rd tokC ((w.alloc o).alloc (.cells #[.int .u8 x.kind,.string x.name,.slice x.A x.m x.c,.string x.text,.int .i64 x.at_] E)) (fun k=>k=w.heap.size+1) (.slice (some ⟨w.heap.size+1,0,none⟩) 1 1) [x]:=by refine⟨_,1,rfl,Nat.le_refl _,by simp[maxLen],fun h=>(by cases h),fun _=>⟨w.heap.size+1,0,rfl,rfl,fun j u hu=> ?_⟩⟩;have hb:=heap_alloc_new (w.alloc o) (.cells #[.int .u8 x.kind,.string x.name,.slice x.A x.m x.c,.string x.text,.int .i64 x.at_] E);simp only[World.size_alloc] at hb;rw[cell_of_row _ _ _ _ _ _ hb];simpa [Cod.flat,tokC] using hu
structure TokX where
 t:TokV
 oa:Option Nat
 m:Tok
def TokOk (w:World)(x:TokX):Prop:=x.t.kind=x.m.kind∧x.t.name=⟨x.m.name.toArray⟩∧x.t.text=⟨x.m.text.toArray⟩∧x.t.at_=x.m.at_∧x.t.m=x.m.attrs.length∧Own pairC w 47 (.slice x.t.A x.t.m x.t.c) x.oa (x.m.attrs.map z3d)
structure TokL (w:World)(base:Nat)(v:Value)(o:Option Nat)(X:List TokX):Prop where
 own:Own tokC w 76 v o (X.map (·.t))
 ok:∀x∈X,TokOk w x
 new:∀k,o=some k→base≤k∧k<w.heap.size
 newa:∀x∈X,∀k,x.oa=some k→base≤k∧k<w.heap.size∧o≠some k
 apart:X.Pairwise (fun x y=>∀k,x.oa=some k→y.oa≠some k)
theorem TokOk.fr {w w':World}{x:TokX}{fp:Nat→Prop}(h:TokOk w x)(f:Fr fp w w')(hs:∀k,x.oa=some k→¬fp k):TokOk w' x:=⟨h.1,h.2.1,h.2.2.1,h.2.2.2.1,h.2.2.2.2.1,h.2.2.2.2.2.fr f hs⟩
theorem TokL.fr {w w':World}{base:Nat}{v:Value}{o:Option Nat}{X:List TokX}{fp:Nat→Prop}(h:TokL w base v o X)(f:Fr fp w w')(hs:∀k,base≤k→k<w.heap.size→(o=some k∨∃x∈X,x.oa=some k)→¬fp k):TokL w' base v o X where
 own:=h.own.fr f (fun k hk=>hs k (h.new k hk).1 (h.new k hk).2 (.inl hk))
 ok:=fun x hx=>(h.ok x hx).fr f (fun k hk=>hs k (h.newa x hx k hk).1 (h.newa x hx k hk).2.1 (.inr ⟨x,hx,hk⟩))
 new:=fun k hk=>⟨(h.new k hk).1,Nat.lt_of_lt_of_le (h.new k hk).2 f.size⟩
 newa:=fun x hx k hk=>⟨(h.newa x hx k hk).1,Nat.lt_of_lt_of_le (h.newa x hx k hk).2.1 f.size,(h.newa x hx k hk).2.2⟩
 apart:=h.apart
theorem TokL.nil_ (w:World)(base:Nat):TokL w base (.slice none 0 0) none []:=⟨Own.nil_ _ _ _ _,fun x hx=>(by cases hx),fun k hk=>(by cases hk),fun x hx=>(by cases hx),.nil⟩
theorem TokL.snoc {w w':World}{base:Nat}{v v':Value}{o o':Option Nat}{X:List TokX}{x:TokX}(h:TokL w base v o X)(hx:TokOk w x)(hxn:∀k,x.oa=some k→base≤k∧k<w.heap.size∧o≠some k∧∀y∈X,y.oa≠some k)
 (hown:Own tokC w' 76 v' o' (X.map (·.t)++[x.t])) (f:Fr (fun k=>o=some k) w w') (hn:∀k,o'=some k→o=some k∨(w.heap.size≤k∧k<w'.heap.size)) (hb:base≤w.heap.size):TokL w' base v' o' (X++[x]) where
 own:=by rw[List.map_append];exact hown
 ok:=by
  intro y hy;rcases List.mem_append.1 hy with hy|hy
  · exact(h.ok y hy).fr f (fun k hk e=>(h.newa y hy k hk).2.2 e)
  · rw[List.mem_singleton] at hy;subst hy;exact hx.fr f (fun k hk e=>(hxn k hk).2.2.1 e)
 new:=fun k hk=>by
  rcases hn k hk with h1|h1
  · exact⟨(h.new k h1).1,Nat.lt_of_lt_of_le (h.new k h1).2 f.size⟩
  · exact⟨by omega,h1.2⟩
 newa:=by
  intro y hy k hk;rcases List.mem_append.1 hy with hy|hy
  · have g:=h.newa y hy k hk;refine⟨g.1,Nat.lt_of_lt_of_le g.2.1 f.size,fun e=> ?_⟩;rcases hn k e with h1|h1
    · exact g.2.2 h1
    · omega
  · rw[List.mem_singleton] at hy;subst hy;have g:=hxn k hk;refine⟨g.1,Nat.lt_of_lt_of_le g.2.1 f.size,fun e=> ?_⟩;rcases hn k e with h1|h1
    · exact g.2.2.1 h1
    · omega
 apart:=by rw[List.pairwise_append];refine⟨h.apart,.cons (fun _ h=>by cases h) .nil,fun y hy z hz k hk=> ?_⟩;rw[List.mem_singleton] at hz;subst hz;exact fun e=>(hxn k e).2.2.2 y hy hk
def TokensPost (s:ByteArray)(w:World)(e:Ending)(w':World):Prop:=
 ∃(A:Option Addr) (c:Nat) (o:Option Nat) (X:List TokX),e=.returned (.tuple #[.slice A X.length c,.int .i64 (tokR s.data.toList).2.1,.int .i64 (tokR s.data.toList).2.2])∧
  TokL w' w.heap.size (.slice A X.length c) o X∧X.map (·.m)=(tokR s.data.toList).1∧Fr (fun _=>False) w w'
theorem TokensPost.err {s:ByteArray}{w w':World}{p:Nat}{er:Int}(h:tokR s.data.toList=([],p,er))(f:Fr (fun _=>False) w w'):TokensPost s w (.returned (.tuple #[.slice none 0 0,.int .i64 p,.int .i64 er])) w':=⟨none,0,none,[],by rw[h];rfl,TokL.nil_ _ _,by rw[h];rfl,f⟩
structure TokenJ (s:ByteArray)(b:Nat)(R:List Tok×Nat×Int)(w w':World)(r:ByteArray)(v:Value)(o:Option Nat)(X:List TokX):Prop where
 cut:CutAt w' b s.size r
 tl:TokL w' w.heap.size v o X
 res:tokS r.data.toList (s.size - r.size) (X.map (·.m))=R
 fr:Fr (fun _=>False) w w'
 nb:w.heap.size≤b
 nbo:o≠some b
 nba:∀x∈X,x.oa≠some b
 len:X.length≤s.size - r.size
theorem zpg (b n:Nat)(r:ByteArray)(w:World)(h:CutAt w b n r)(hst:St w)(hfree:Free b)(hn:n≤70000)(h0:0<r.size){off:Nat}{er:Int}(hk:z6j r.data.toList=.inr (off,er)):
 Calls Tryz.prog 47 #[.pointer (some ⟨b,0,none⟩)] w fun e w'=>∃(k:Int) (nm tx:ByteArray) (A:Option Addr) (m c:Nat) (i:Int),e=.returned (.tuple #[.agg #[.int .u8 k,.string nm,.slice A m c,.string tx,.int .i64 i],.int .i64 ((n - r.data.toList.length+off:Nat):Int),.int .i64 er])∧Fr (fun k=>k=b) w w':=
 (zgj b n r w h hst hfree hn h0).mono fun e w' ⟨hf,hm⟩=>by rw[hk] at hm;obtain⟨k,nm,tx,A,m,c,i,r',h1,h2⟩:=hm;exact⟨k,nm,tx,A,m,c,i,h1,hf⟩
theorem ztc (b n:Nat)(r:ByteArray)(w:World)(h:CutAt w b n r)(hst:St w)(hfree:Free b)(hn:n≤70000)(h0:0<r.size){kd:Nat}{nm:List UInt8}{vs:List (List UInt8×List UInt8)}{tx:List UInt8}{k:Nat}(hk:z6j r.data.toList=.inl (kd,nm,vs,tx,k)):
 Calls Tryz.prog 47 #[.pointer (some ⟨b,0,none⟩)] w fun e w'=>∃(A:Option Addr) (c:Nat) (oa:Option Nat) (i2:Int),e=.returned (.tuple #[.agg #[.int .u8 kd,.string ⟨nm.toArray⟩,.slice A vs.length c,.string ⟨tx.toArray⟩,.int .i64 ((n - r.data.toList.length:Nat):Int)],.int .i64 i2,.int .i64 0])∧
  CutAt w' b n ⟨(r.data.toList.drop k).toArray⟩∧Own pairC w' 47 (.slice A vs.length c) oa (vs.map z3d)∧(∀k,oa=some k→w.heap.size≤k∧k<w'.heap.size)∧Fr (fun k=>k=b) w w':=
 (zgj b n r w h hst hfree hn h0).mono fun e w' ⟨hf,hm⟩=>by rw[hk] at hm;obtain⟨A,c,oa,i2,h1,h2,h3,h4⟩:=hm;exact⟨A,c,oa,i2,h1,h2,h3,h4,hf⟩
set_option maxRecDepth 100000 in
set_option maxHeartbeats 8000000 in
theorem zlz (s:ByteArray)(w:World)(hst:St w):Calls Tryz.prog 23 #[.string s] w (TokensPost s w):=by
 have hl:s.data.toList.length=s.size:=rfl;by_cases hbig:65536<s.size
 · have hr:tokR s.data.toList=([],0,3):=by unfold tokR;rw[if_pos (by omega)]
   have HP:=hide (fun(W:World) (f:Fr (fun _=>False) w W)=>TokensPost.err hr f);have hi:(65536:Int)<s.size:=by omega
   clear hr hl hbig hst;go_enter Tryz.func23,Tryz.ntmps23;go_wp2;go_returns;exact HP.out _ (Fr.refl _ _)
 · have hi:¬(65536:Int)<s.size:=by omega
   have hi2:(s.size:Int)≤65536:=by omega
   have HV:=zbh s w hst.ub (by omega);by_cases hv:(z0h s.data.toList).2=0
   · obtain⟨R,hR⟩:∃R,tokR s.data.toList=R:=⟨_,rfl⟩;have hR2:tokS s.data.toList 0 []=R:=by rw[←hR];unfold tokR;rw[if_neg (by omega),if_neg (by simpa using hv)]
     rw[hv] at HV;have HV:=hide HV;generalize (z0h s.data.toList).1=vk at*;have HPE:=hide (fun(W:World) (p:Nat) (er:Int) (h:R=([],p,er)) (f:Fr (fun _=>False) w W)=>show TokensPost s w (.returned (.tuple #[.slice none 0 0,.int .i64 p,.int .i64 er])) W from TokensPost.err (by rw[hR,h]) f)
     have HPO:=hide (fun(W:World) (A:Option Addr) (c:Nat) (o:Option Nat) (X:List TokX) (h:R=(X.map (·.m),0,0)) (tl:TokL W w.heap.size (.slice A X.length c) o X) (f:Fr (fun _=>False) w W)=>show TokensPost s w (.returned (.tuple #[.slice A X.length c,.int .i64 0,.int .i64 0])) W from
      ⟨A,c,o,X,by rw[hR,h];rfl,tl,by rw[hR,h],f⟩)
     have HST:=hide (fun(W:World) (f:Fr (fun _=>False) w W)=>hst.same f);have HFREE:=hide (fun(b:Nat) (hb:w.heap.size≤b)=>hst.free hb);have HR2:=hide hR2;clear hR hR2 hv hst hbig hl;go_enter Tryz.func23,Tryz.ntmps23;go_wp2_with (go_at_call 45;refine HV.out.mono ?_;rintro e w1 ⟨rfl,f1⟩;have hw1:=f1.size);have HF1:=hide f1;clear f1;go_loopw [7] (fun v wr=>∃(r:ByteArray) (A:Option Addr) (c:Nat) (o:Option Nat) (X:List TokX),v=.slice A X.length c∧r.size≤s.size∧Hid (TokenJ s w1.heap.size R w wr r (.slice A X.length c) o X)) (fun _ wr=>lfoT w1.heap.size wr)
     case atStart=>exact⟨s,none,0,none,[],rfl,Nat.le_refl _,hide ⟨⟨heap_alloc_new w1 _,Nat.le_refl _,by omega⟩,TokL.nil_ _ _,by rw[Nat.sub_self];exact HR2.out,Fr.alloc HF1.out _,hw1,by simp,fun x hx=>(by cases hx),by simp⟩⟩
     case round=>
      obtain⟨r,A,c,o,X,rfl,hrs,hJ⟩:=hrel;have k1:=hJ.out.cut.c1;have HLEN:=hide (show X.length≤65536 by have:=hJ.out.len;omega);by_cases h0:0<r.size
      · obtain⟨iE,iE2⟩:=z3k h0;have hst1:=HST.out wr hJ.out.fr;have hfree1:=HFREE.out w1.heap.size hw1;have hrl:r.data.toList.length=r.size:=rfl;have hrn:r.data.toList≠[]:=fun e=>by rw[e] at hrl;simp at hrl;omega
        have hrm:=zly w1.heap.size s.size r wr hJ.out.cut hst1 hfree1;by_cases hre:0<z0c r.data.toList
        · have hrle:=z3n r.data.toList;obtain⟨r2,hr2⟩:∃r2:ByteArray,(⟨(r.data.toList.drop (z0c r.data.toList)).toArray⟩:ByteArray)=r2:=⟨_,rfl⟩;have h2l:r2.data.toList=r.data.toList.drop (z0c r.data.toList):=by rw[←hr2]
          have h2z:r2.size=r.size - z0c r.data.toList:=by rw[←hr2,z1j,List.length_drop,hrl]
          rw[decide_eq_true hre,hr2] at hrm;have HRM:=hide hrm;have hres:=hJ.out.res;rw[z4p hre,←h2l,show s.size - r.size+z0c r.data.toList=s.size - r2.size by omega] at hres;have HRES:=hide hres;have HZ:=hide (show r2.size<r.size∧r2.size≤s.size∧s.size - r.size≤s.size - r2.size by omega);clear hrm hres h2z h2l hr2 hrle hre hrn hrl;go_wp2_with (go_at_call 46;refine HRM.out.mono ?_;rintro e w2 ⟨rfl,c2,f2⟩);go_roundw
          case rel=>
           exact⟨r2,A,c,o,X,rfl,HZ.out.2.1,hide ⟨c2,hJ.out.tl.fr f2 (fun k h1 h2 h3 e=>by
            subst e;rcases h3 with h3|⟨x,hx,h3⟩
            · exact hJ.out.nbo h3
            · exact hJ.out.nba x hx h3),HRES.out,(hJ.out.fr.then_ f2 (fun k h1 h2=>by omega)),hw1,hJ.out.nbo,hJ.out.nba,Nat.le_trans hJ.out.len HZ.out.2.2⟩⟩
          case measure=>
           show lfoT w1.heap.size w2<lfoT w1.heap.size wr;rw[z5n c2,z5n hJ.out.cut];exact HZ.out.1
        · have hre0:z0c r.data.toList=0:=by omega
          rw[hre0,List.drop_zero,z5b] at hrm;have HRM:=hide hrm;have hres:=hJ.out.res;rw[zpd hrn hre0] at hres
          cases hk:z6j r.data.toList with
          |inr y=>
           obtain⟨off,er⟩:=y;rw[hk] at hres;have HTK:=hide (fun(W:World) (hc:CutAt W w1.heap.size s.size r) (hs:St W)=>zpg w1.heap.size s.size r W hc hs hfree1 (by omega) h0 hk);have her:=(zpe hk).1;have erb:(er !=0)=true:=by simpa using her
           have HRES:=hide hres;have HN:=hide hrl;clear hrm hres hk her hre hre0 hrn hrl
           go_wp2_with (first
            |(go_at_call 46;refine HRM.out.mono ?_;rintro e w2 ⟨rfl,c2,f2⟩;have F2:=hide (hJ.out.fr.then_ f2 (fun k h1 h2=>by omega)))
            |(go_at_call 47;refine(HTK.out _ c2 (HST.out _ F2.out)).mono ?_;rintro e w3 ⟨tk,tn,tt,tA,tm,tc,ti,rfl,f3⟩;have F3:=hide (F2.out.then_ f3 (fun k h1 h2=>by omega))))
           go_returns;have hh:=HPE.out _ (s.size - r.size+off) er HRES.out.symm (Fr.alloc F3.out (.cells #[.int .u8 tk,.string tn,.slice tA tm tc,.string tt,.int .i64 ti] 76));rw[←HN.out] at hh;exact hh
          |inl y=>
           obtain⟨kd,nm,vs,tx,k⟩:=y;rw[hk] at hres;simp only at hres;obtain⟨kp1,kp2,kp3⟩:=ztb hrn hk;rw[hrl] at kp2;obtain⟨r4,hr4⟩:∃r4:ByteArray,(⟨(r.data.toList.drop k).toArray⟩:ByteArray)=r4:=⟨_,rfl⟩;have h4l:r4.data.toList=r.data.toList.drop k:=by rw[←hr4]
           have h4z:r4.size=r.size - k:=by rw[←hr4,z1j,List.length_drop,hrl]
           obtain⟨xn,hxn⟩:∃xn:ByteArray,(⟨nm.toArray⟩:ByteArray)=xn:=⟨_,rfl⟩;obtain⟨xt,hxt⟩:∃xt:ByteArray,(⟨tx.toArray⟩:ByteArray)=xt:=⟨_,rfl⟩;have htk:=fun(W:World) (hc:CutAt W w1.heap.size s.size r) (hs:St W)=>ztc w1.heap.size s.size r W hc hs hfree1 (by omega) h0 hk;rw[hr4,hxn,hxt,hrl] at htk;obtain⟨p,hp⟩:∃p,s.size - r.size=p:=⟨_,rfl⟩;rw[hp] at htk hres;have HTK:=hide htk;have HRES:=hide (show tokS r4.data.toList (s.size - r4.size) ((X.map (·.m))++[⟨kd,nm,vs,tx,p⟩])=R by rw[h4l,show s.size - r4.size=p+k by omega];exact hres);have HXOK:=hide (fun(W:World) (A3:Option Addr) (c3:Nat) (oa:Option Nat) (own:Own pairC W 47 (.slice A3 vs.length c3) oa (vs.map z3d))=>show TokOk W ⟨⟨kd,xn,A3,vs.length,c3,xt,p⟩,oa,⟨kd,nm,vs,tx,p⟩⟩ from⟨rfl,hxn.symm,hxt.symm,rfl,rfl,own⟩);have HZ:=hide (show r4.size<r.size∧r4.size≤s.size∧X.length+1≤s.size - r4.size by have:=hJ.out.len;omega);clear hrm hres hk hre hre0 hrn hrl htk kp1 kp2 kp3 hr4 h4l h4z hxn hxt hp
           go_wp2_with (first
            |(go_at_call 46;refine HRM.out.mono ?_;rintro e w2 ⟨rfl,c2,f2⟩;have F2:=hide (hJ.out.fr.then_ f2 (fun k h1 h2=>by omega)))
            |(go_at_call 47;refine(HTK.out _ c2 (HST.out _ F2.out)).mono ?_;rintro e w3 ⟨A3,c3,oa,i2,rfl,cc3,own3,new3,f3⟩;have F3:=hide (F2.out.then_ f3 (fun k h1 h2=>by omega));have TL3:=hide (hJ.out.tl.fr (f2.trans f3) (fun k h1 h2 h3 e=>by
             subst e;rcases h3 with h3|⟨x,hx,h3⟩
             · exact hJ.out.nbo h3
             · exact hJ.out.nba x hx h3)))
            |(at_builtin;(refine z0d rfl rfl zxn (by rfl) (by rfl) (TL3.out.own.fr (Fr.alloc (Fr.alloc (Fr.refl (fun _=>False) w3) _) _) (fun _ _ h=>h)) (zxo w3 _ ⟨kd,xn,A3,vs.length,c3,xt,p⟩ _) (by have:=HLEN.out;simp;omega) ?_);intro B1 d1 w4 o4 m4 g4 n4))
           have h2:Fr (fun _=>False) w3 ((w3.alloc (.cells #[.int .u8 kd,.string xn,.slice A3 vs.length c3,.string xt,.int .i64 p] 76)).alloc (.cells #[.int .u8 kd,.string xn,.slice A3 vs.length c3,.string xt,.int .i64 p] 76)):=Fr.alloc (Fr.alloc (Fr.refl _ _) _) _;have hsw:=hJ.out.fr.size;have hs2:=f2.size;have hs3:=f3.size;have hcl:=hJ.out.cut.lt;have hown4:Own tokC w4 76 (.slice B1 (X.length+1) d1) o4 (X.map (·.t)++[⟨kd,xn,A3,vs.length,c3,xt,p⟩]):=by simpa using m4
           have TL4:=hide (TL3.out.fr h2 (fun _ _ _ _ h=>h));have OW:=hide (HXOK.out _ A3 c3 oa (own3.fr h2 (fun _ _ h=>h)));have hs4:=h2.size
           have TL5:=hide (TL4.out.snoc (v':=.slice B1 (X.length+1) d1) OW.out (fun k hk=>by
            have hn:=new3 k hk;refine⟨by omega,by omega,fun e=> ?_,fun y hy e=> ?_⟩
            · have:=(hJ.out.tl.new k e).2;omega
            · have:=(hJ.out.tl.newa y hy k e).2.1;omega) hown4 g4 n4 (by omega))
           have hbo:¬o=some w1.heap.size:=hJ.out.nbo;have c4:=(cc3.same h2).fr g4 hbo;go_roundw
           case rel=>
            refine⟨r4,B1,d1,o4,X++[⟨⟨kd,xn,A3,vs.length,c3,xt,p⟩,oa,⟨kd,nm,vs,tx,p⟩⟩],by simp,HZ.out.2.1,hide ⟨c4,by simpa using TL5.out,by rw[List.map_append];exact HRES.out,(F3.out.trans h2).then_ g4 (fun k h1 h2=>by have:=(hJ.out.tl.new k h2).1;omega),hw1,fun e=> ?_,fun x hx e=> ?_,by rw[List.length_append];exact HZ.out.2.2⟩⟩
            · rcases n4 _ e with h|h
              · exact hbo h
              · omega
            · rcases List.mem_append.1 hx with hx|hx
              · exact hJ.out.nba x hx e
              · rw[List.mem_singleton] at hx;subst hx;have:=(new3 _ e).1;omega
           case measure=>
            show lfoT w1.heap.size w4<lfoT w1.heap.size wr;rw[z5n c4,z5n hJ.out.cut];exact HZ.out.1
      · have hre:r=⟨#[]⟩:=by
         cases r with
         |mk d=>congr 1;exact Array.toList_inj.1 (List.eq_nil_of_length_eq_zero (by show (⟨d⟩:ByteArray).size=0;omega))
        subst hre;have hres:=hJ.out.res;have HRES:=hide (show R=(X.map (·.m),0,0) from hres.symm);clear hres;go_wp2_with fail;go_returns;exact HPO.out _ A c o X HRES.out hJ.out.tl hJ.out.fr
   · have hr:tokR s.data.toList=([],(z0h s.data.toList).1,(z0h s.data.toList).2):=by unfold tokR;rw[if_neg (by omega),if_pos hv]
     have HP:=hide (fun(W:World) (f:Fr (fun _=>False) w W)=>TokensPost.err hr f);have hvb:((z0h s.data.toList).2 !=0)=true:=by simpa using hv
     have HV:=hide HV;clear hr hl hbig hst hv;generalize (z0h s.data.toList).1=vk at*;generalize (z0h s.data.toList).2=ve at*;go_enter Tryz.func23,Tryz.ntmps23;go_wp2_with (go_at_call 45;refine HV.out.mono ?_;rintro e w1 ⟨rfl,f1⟩);go_returns;exact HP.out _ f1
end Go.Proofs.YtnlacmnoocigiaaGreatDoor
namespace Go.Proofs.YtnlacmnoocigiaaGreatDoor
open Go.RowKit Go.Lib
attribute [local go_sem ↓] Go.wp_at_zero Go.wp_at_succ
theorem dw_nil {p:UInt8→Bool}:∀{l:List UInt8},l.dropWhile p=[]↔∀a∈l,p a=true
 |[]=>by simp
 |b::t=>by
  rw[List.dropWhile_cons];by_cases h:p b=true
  · rw[if_pos h,dw_nil];simp[h]
  · rw[if_neg h];simp[h]
def z2f (l:List UInt8):Bool:=l.all z0z
theorem zph (l:List UInt8):Lib.trimS l [32,9,10,13]=[]↔z2f l=true:=by
 unfold Lib.trimS Lib.trimLeftS Lib.trimRightS z2f;rw[zgd,List.all_eq_true];constructor
 · intro h;have h1:∀a∈(l.reverse.dropWhile z0z).reverse,z0z a=true:=by intro a ha;exact(dw_nil.1 h) a ha
   have h2:l.reverse.dropWhile z0z=[]:=by
    cases hd:l.reverse.dropWhile z0z with
    |nil=>rfl
    |cons c t=>
     have hc:=List.head_dropWhile_not z0z (l:=l.reverse) (by rw[hd];simp);have hm:c∈(l.reverse.dropWhile z0z).reverse:=by rw[hd];simp
     have:=h1 c hm;simp only[hd,List.head_cons] at hc;rw[this] at hc;cases hc
   intro a ha;exact(dw_nil.1 h2) a (by simpa using ha)
 · intro h;have h2:l.reverse.dropWhile z0z=[]:=dw_nil.2 (fun a ha=>h a (by simpa using ha));rw[h2];rfl
set_option maxHeartbeats 1000000 in
theorem zbt (s:ByteArray)(w:World)(hs:s.size≤9223372036854775807):Calls Tryz.prog 53 #[.string s] w fun e w'=>e=.returned (.bool (z2f s.data.toList))∧Fr (fun _=>False) w w':=by
 have h:=Any.strings_Trim_laid Tryz.lays160 (by kernel_rfl) s ⟨#[32,9,10,13]⟩ w hs (by decide) (ascii_of_all (by decide));rw[show (⟨#[32,9,10,13]⟩:ByteArray).data.toList=[32,9,10,13] from rfl] at h;have hiff:=zph s.data.toList;generalize hT:Lib.trimS s.data.toList [32,9,10,13]=T at*
 cases hb:z2f s.data.toList with
 |true=>obtain rfl:T=[]:=hiff.2 hb;have H:=hide h;clear hiff hb h hT hs;go_enter Tryz.func53,Tryz.ntmps53;go_wp2_with (go_at_call 83;refine H.out.mono ?_;rintro e w1 ⟨rfl,f1⟩);go_ret;exact⟨rfl,Fr.of_below f1 (fun k h1 h2=>absurd h1 (by omega))⟩
 |false=>
  have hT0:T≠[]:=fun e=>by rw[hiff.1 e] at hb;cases hb
  obtain⟨r,hr⟩:∃r:ByteArray,(⟨T.toArray⟩:ByteArray)=r:=⟨_,rfl⟩;have hrz:0<r.size:=by rw[←hr,z1j];exact List.length_pos_iff.2 hT0
  obtain⟨iE,iE2⟩:=z3k hrz;rw[hr] at h;have H:=hide h;clear hiff hb h hT hs hT0 hr hrz;go_enter Tryz.func53,Tryz.ntmps53;go_wp2_with (go_at_call 83;refine H.out.mono ?_;rintro e w1 ⟨rfl,f1⟩);go_ret;exact⟨rfl,Fr.of_below f1 (fun k h1 h2=>absurd h1 (by omega))⟩
end Go.Proofs.YtnlacmnoocigiaaGreatDoor
