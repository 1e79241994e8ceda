/- token: raws and tokens in memory; tag. -/
import Derived.Test.YtnlacmnoocigiaaGreatDoorTokC
import Derived.Test.YtnlacmnoocigiaaGreatDoorTokAb
import Derived.WalkMore
import Derived.ScopeJumps
namespace Go.Proofs.YtnlacmnoocigiaaGreatDoor
open Go.RowKit Go.Lib
attribute [local go_sem ↓] Go.wp_at_zero Go.wp_at_succ
structure RawV where
 name:ByteArray
 value:ByteArray
 at_:Int
def rawC :Cod RawV where
 size:=3
 cells x:=[.string x.name,.string x.value,.int .i64 x.at_]
 len _:=rfl
 one x u hu:=by simp only[List.mem_cons,List.not_mem_nil,or_false] at hu;rcases hu with rfl|rfl|rfl<;>rfl
 pos:=by decide
def rawV (p:Nat)(a:RawA):RawV:=⟨⟨a.name.toArray⟩,⟨a.value.toArray⟩,((p+a.off:Nat):Int)⟩
theorem zxk :El Tryz.prog 144 170 3 40:=El.mk (.agg #[.string ⟨#[]⟩,.string ⟨#[]⟩,.int .i64 0]) Tryz.underlying144 (by kernel_rfl) rfl
theorem zxl (w:World)(x:RawV)(E:TypeId)(m:Nat)(h:1≤m)(hm:m≤maxLen):Rd rawC (w.alloc (.cells #[.string x.name,.string x.value,.int .i64 x.at_] E)) (fun k=>k=w.heap.size) (.slice (some ⟨w.heap.size,0,none⟩) 1 m) [x]:=by refine⟨_,m,rfl,h,hm,fun h=>(by cases h),fun _=>⟨w.heap.size,0,rfl,rfl,fun j u hu=> ?_⟩⟩;rw[cell_of_row _ _ _ _ _ _ (heap_alloc_new w _)];simpa [Cod.flat,rawC] using hu
structure TokAt (w:World)(tb:Nat)(kind:Int)(name:ByteArray)(av:Value)(text:ByteArray)(at_:Int):Prop where
 blk:w.heap[tb]? =some (.cells #[.int .u8 kind,.string name,av,.string text,.int .i64 at_] 76 (0,0))
namespace TokAt
variable {w w' : World} {tb : Nat} {kind : Int} {name text : ByteArray} {av : Value} {at_ : Int}
theorem fr {fp:Nat→Prop}(h:TokAt w tb kind name av text at_)(f:Fr fp w w')(hb:¬fp tb):TokAt w' tb kind name av text at_:=⟨(f.block tb (Array.getElem?_eq_some_iff.1 h.blk).1 hb).trans h.blk⟩
theorem lt (h:TokAt w tb kind name av text at_):tb<w.heap.size:=(Array.getElem?_eq_some_iff.1 h.blk).1
theorem facts (h:TokAt w tb kind name av text at_):w.cell? ⟨tb,0,none⟩=some (.int .u8 kind)∧w.cell? ⟨tb,1,none⟩=some (.string name)∧w.cell? ⟨tb,2,none⟩=some av∧w.cell? ⟨tb,3,none⟩=some (.string text)∧w.cell? ⟨tb,4,none⟩=some (.int .i64 at_)∧∀i,w.frozen? ⟨tb,i,none⟩=false:=by
 refine⟨?_, ?_, ?_, ?_, ?_,fun i=>frozen_of_row w tb i _ _ h.blk⟩
 · rw[cell_of_row w tb 0 _ _ _ h.blk];rfl
 · rw[cell_of_row w tb 1 _ _ _ h.blk];rfl
 · rw[cell_of_row w tb 2 _ _ _ h.blk];rfl
 · rw[cell_of_row w tb 3 _ _ _ h.blk];rfl
 · rw[cell_of_row w tb 4 _ _ _ h.blk];rfl
theorem kind_ (h:TokAt w tb kind name av text at_)(k:Int):TokAt (w.setCell ⟨tb,0,none⟩ (.int .u8 k)) tb k name av text at_:=⟨heap_setCell_same w tb 0 _ _ _ h.blk⟩
theorem name_ (h:TokAt w tb kind name av text at_)(s:ByteArray):TokAt (w.setCell ⟨tb,1,none⟩ (.string s)) tb kind s av text at_:=⟨heap_setCell_same w tb 1 _ _ _ h.blk⟩
theorem attrs_ (h:TokAt w tb kind name av text at_)(v:Value):TokAt (w.setCell ⟨tb,2,none⟩ v) tb kind name v text at_:=⟨heap_setCell_same w tb 2 _ _ _ h.blk⟩
theorem text_ (h:TokAt w tb kind name av text at_)(s:ByteArray):TokAt (w.setCell ⟨tb,3,none⟩ (.string s)) tb kind name av s at_:=⟨heap_setCell_same w tb 3 _ _ _ h.blk⟩
theorem at__ (h:TokAt w tb kind name av text at_)(i:Int):TokAt (w.setCell ⟨tb,4,none⟩ (.int .i64 i)) tb kind name av text i:=⟨heap_setCell_same w tb 4 _ _ _ h.blk⟩
end TokAt
theorem z2e (l:List UInt8)(x y:UInt8):hasPrefix l [x,y]=true↔l[0]? =some x∧l[1]? =some y:=by
 match l with
 |[]=>simp[hasPrefix,List.isPrefixOf]
 |[b]=>simp only[hasPrefix,List.isPrefixOf,Bool.and_false,List.getElem?_cons_zero,List.getElem?_cons_succ,List.getElem?_nil];simp
 |b::c::l=>simp only[hasPrefix,List.isPrefixOf,Bool.and_true,Bool.and_eq_true,beq_iff_eq,List.getElem?_cons_zero,List.getElem?_cons_succ,Option.some.injEq];exact⟨fun h=>⟨h.1.symm,h.2.symm⟩,fun h=>⟨h.1.symm,h.2.symm⟩⟩
def goes (l:List UInt8):Prop:=0<nB l∧∃c,(l.drop (nB l))[0]? =some c∧c≠47∧c≠62
theorem zij {l:List UInt8}(h:goes l)(at_:Nat)(acc:List RawA):z3v l at_ acc=match z1p (l.drop (nB l)) with
 |none=>none
 |some (a,k)=>z3v (l.drop (nB l+k)) (at_+nB l+k) (acc++[⟨a.name,a.value,at_+nB l+a.off⟩]):=by
 obtain⟨h1,c,hc,h2,h3⟩:=h;rw[List.getElem?_drop,Nat.add_zero] at hc;have hl:=z4o hc;rw[z2u,hc,if_neg (by simpa using h3),if_neg (by simp[h2]),if_neg (by omega)];rfl
theorem zik {l:List UInt8}(h:¬goes l)(at_:Nat)(acc:List RawA):z3v l at_ acc=
 if hasPrefix (l.drop (nB l)) [47,62]=true then some (3,acc,at_+nB l+2) else if hasPrefix (l.drop (nB l)) [62]=true then some (1,acc,at_+nB l+1) else none:=by
 rw[z2u];have e1:=z0g (l.drop (nB l)) 62;have e2:=z2e (l.drop (nB l)) 47 62;rw[List.getElem?_drop,Nat.add_zero] at e1 e2;rw[List.getElem?_drop] at e2;by_cases c1:l[nB l]? =some 62
 · rw[if_pos c1,if_neg (fun hh=>by have:=(e2.1 hh).1;rw[c1] at this;cases this),if_pos (e1.2 c1)]
 · rw[if_neg c1];by_cases c2:l[nB l]? =some 47∧l[nB l+1]? =some 62
   · rw[if_pos c2,if_pos (e2.2 c2)]
   · rw[if_neg c2,if_neg (fun hh=>c2 (e2.1 hh)),if_neg (fun hh=>c1 (e1.1 hh))];by_cases c3:nB l=0∨l.length≤nB l
     · rw[if_pos c3]
     · rw[if_neg c3];have hlt:nB l<l.length:=by omega
       have hg:l[nB l]? =some l[nB l]:=List.getElem?_eq_getElem hlt;have h47:l[nB l]=47:=Classical.byContradiction fun hn=>h ⟨by omega,l[nB l],by rw[List.getElem?_drop,Nat.add_zero];exact hg,hn,fun e=>c1 (by rw[hg,e])⟩
       cases ha:z1p (l.drop (nB l)) with
       |none=>rfl
       |some x=>
        obtain⟨q,r,hb0,_⟩:=attrP_iff.1 ha;have:z03 (l.drop (nB l))=0:=by refine zbv (fun k hk1 hk2=>zm0 (b:=47) (List.mem_of_getElem? (i:=0) ?_) (by decide) (by decide));rw[List.getElem?_take,if_pos hk1,List.getElem?_drop,Nat.add_zero,hg,h47]
        omega
theorem z6x {P:Program}{a:Act}{w:World}{Q:Exit→Act→World→Prop}{c rest:Code}(l:Nat)(hf:findLabel c l=some rest)
 (first:c.wp P (Exit.jump l (fun a w=>rest.wp P (Exit.noGoto Q) a w) Q) a w):(Code.scope c).wp P Q a w:=by
 refine wp_scope_jumps l (fun a w=>rest.wp P (Exit.noGoto Q) a w) (fun _ _=>0) hf first ?_
 intro a w h;refine Code.wp_mono ?_ h;intro e a' w' hq;cases e<;>first|exact hq|exact hq.elim
def TagPost (b n tb:Nat)(l:List UInt8)(av:Value)(tx:ByteArray)(ta:Int)(w:World)(e:Ending)(w':World):Prop:=
 Fr (fun k=>k=b∨k=tb) w w'∧match tagP l with
 |none=>∃v r' k nm,e=.returned (.tuple #[v,.bool false])∧CutAt w' b n r'∧TokAt w' tb k nm av tx ta
 |some (kind,name,ats,k)=>∃v o,e=.returned (.tuple #[v,.bool true])∧CutAt w' b n ⟨(l.drop k).toArray⟩∧TokAt w' tb kind ⟨name.toArray⟩ av tx ta∧
  Own rawC w' 170 v o (ats.map (rawV (n - l.length)))∧(∀k,o=some k→w.heap.size≤k∧k<w'.heap.size)
theorem TagPost.no {b n tb:Nat}{k:Int}{l:List UInt8}{av v:Value}{tx r' nm:ByteArray}{ta:Int}{w w':World}(h:tagP l=none)(hc:CutAt w' b n r')(ht:TokAt w' tb k nm av tx ta)(hf:Fr (fun k=>k=b∨k=tb) w w'):
 TagPost b n tb l av tx ta w (.returned (.tuple #[v,.bool false])) w':=by
 refine⟨hf, ?_⟩;rw[h];exact⟨v,r',k,nm,rfl,hc,ht⟩
theorem TagPost.yes {b n tb kind k:Nat}{l name:List UInt8}{ats:List RawA}{av v:Value}{o:Option Nat}{tx r' nm:ByteArray}{ta:Int}{w w':World}(h:tagP l=some (kind,name,ats,k))(hc:CutAt w' b n r')(hr:r'=⟨(l.drop k).toArray⟩)
 (ht:TokAt w' tb (kind:Int) nm av tx ta) (hn:nm=⟨name.toArray⟩) (hf:Fr (fun k=>k=b∨k=tb) w w') (ho:Own rawC w' 170 v o (ats.map (rawV (n - l.length)))) (hfr:∀k,o=some k→w.heap.size≤k∧k<w'.heap.size):
 TagPost b n tb l av tx ta w (.returned (.tuple #[v,.bool true])) w':=by
 refine⟨hf, ?_⟩;rw[h];subst hr hn;exact⟨v,o,rfl,hc,ht,ho,hfr⟩
theorem Fr.l {b tb:Nat}{w w':World}(h:Fr (fun k=>k=b) w w'):Fr (fun k=>k=b∨k=tb) w w':=h.mono (fun _ h=>.inl h)
theorem Fr.r {b tb:Nat}{w w':World}(h:Fr (fun k=>k=tb) w w'):Fr (fun k=>k=b∨k=tb) w w':=h.mono (fun _ h=>.inr h)
theorem zeo {b n tb:Nat}{kd:Int}{r nm tx:ByteArray}{av:Value}{ta:Int}{w:World}(h:CutAt w b n r)(ht:TokAt w tb kd nm av tx ta)(hne:¬b=tb)(k:Int)(s:ByteArray):
 ∃W,(w.setCell ⟨tb,0,none⟩ (.int .u8 k)).setCell ⟨tb,1,none⟩ (.string s)=W∧CutAt W b n r∧TokAt W tb k s av tx ta∧Fr (fun k=>k=tb) w W:=
 ⟨_,rfl,(h.fr (Fr.set_b w tb 0 (.int .u8 k)) hne).fr (Fr.set_b _ tb 1 (.string s)) hne,(ht.kind_ k).name_ s,(Fr.set_b w tb 0 (.int .u8 k)).trans (Fr.set_b _ tb 1 (.string s))⟩
set_option maxRecDepth 100000 in
set_option maxHeartbeats 4000000 in
theorem zp7 (b n tb:Nat)(kd:Int)(r nm tx:ByteArray)(av:Value)(ta:Int)(w:World)(h:CutAt w b n r)(ht:TokAt w tb kd nm av tx ta)(hne:¬b=tb)(h0:r.data.toList[0]? =some 60)(h47:r.data.toList[1]? =some 47):
 Calls Tryz.prog 76 #[.pointer (some ⟨b,0,none⟩),.pointer (some ⟨tb,0,none⟩)] w fun e w'=>TagPost b n tb r.data.toList av tx ta w e w':=by
 have hne':¬tb=b:=fun e=>hne e.symm;have C0:=hide (h.fr (Fr.set_b w tb 0 (.int .u8 1)) hne);have T0:=hide (ht.kind_ 1);have F0:=hide ((Fr.set_b w tb 0 (.int .u8 1)).r (b:=b));obtain⟨x0,x1,x2,x3,x4,x5⟩:=ht.facts;have hp:hasPrefix r.data.toList [60,47]=true:=(z2e _ _ _).2 ⟨h0,h47⟩;have e1:=fun W hW=>z84 b n r ⟨#[60,47]⟩ W hW;rw[show (⟨#[60,47]⟩:ByteArray).data.toList=[60,47] from rfl,hp,show trimPrefix r.data.toList [60,47]=r.data.toList.drop 2 by unfold trimPrefix;rw[if_pos hp];rfl] at e1;obtain⟨r1,hr1⟩:∃r1:ByteArray,(⟨(r.data.toList.drop 2).toArray⟩:ByteArray)=r1:=⟨_,rfl⟩;have h1l:r1.data.toList=r.data.toList.drop 2:=by rw[←hr1]
 rw[hr1] at e1;have HE1:=hide e1;have wd:=fun W hW=>zen b n r1 W hW;obtain⟨nn,hnn⟩:∃nn:ByteArray,(⟨(r1.data.toList.take (z03 r1.data.toList)).toArray⟩:ByteArray)=nn:=⟨_,rfl⟩;obtain⟨r2,hr2⟩:∃r2:ByteArray,(⟨(r1.data.toList.drop (z03 r1.data.toList)).toArray⟩:ByteArray)=r2:=⟨_,rfl⟩;rw[hnn,hr2] at wd;have HW:=hide wd;have h2l:r2.data.toList=r.data.toList.drop (2+z03 (r.data.toList.drop 2)):=by rw[←hr2,h1l,List.drop_drop]
 have sk:=fun W hW=>z7g b n r2 W hW;obtain⟨s2,hs2⟩:∃s2,decide (0<nB r2.data.toList)=s2:=⟨_,rfl⟩;obtain⟨r3,hr3⟩:∃r3:ByteArray,(⟨(r2.data.toList.drop (nB r2.data.toList)).toArray⟩:ByteArray)=r3:=⟨_,rfl⟩;rw[hs2,hr3] at sk;have HS:=hide sk;have h3l:r3.data.toList=r.data.toList.drop (2+z03 (r.data.toList.drop 2)+nB (r.data.toList.drop (2+z03 (r.data.toList.drop 2)))):=by rw[←hr3,h2l,List.drop_drop]
 have e2:=fun W hW=>z84 b n r3 ⟨#[62]⟩ W hW;rw[show (⟨#[62]⟩:ByteArray).data.toList=[62] from rfl] at e2;have htag:=z9l r.data.toList;rw[if_pos h47] at htag;clear e1 hr1 wd hr2 sk hs2 hr3 h ht hp;by_cases hb0:z03 (r.data.toList.drop 2)=0
 · have hnn0:nn=⟨#[]⟩:=by rw[←hnn,h1l,hb0];rfl
   subst hnn0;rw[if_pos (.inl hb0)] at htag;have HT:=hide htag;clear htag hb0 hnn h1l h2l h3l e2 h0 h47;go_enter Tryz.func76,Tryz.ntmps76;go_wp2;refine z6x 0 rfl ?_
   go_wp2_with (first
    |(go_at_call 103;refine(HE1.out _ C0.out).mono ?_;rintro e w1 ⟨rfl,c1,f1⟩)
    |(go_at_call 104;refine(HW.out _ c1).mono ?_;rintro e w2 ⟨rfl,c2,f2⟩;have t2:=(T0.out.fr f1 hne').fr f2 hne';obtain⟨y0,y1,y2,y3,y4,y5⟩:=t2.facts))
   obtain⟨W3,hW3,c3,t3,g3⟩:=zeo c2 t2 hne 2 ⟨#[]⟩;rw[hW3];have T3:=hide t3;have C3:=hide c3;have F3:=hide (((F0.out.trans f1.l).trans f2.l).trans g3.r);clear hW3 c3 t3 g3
   go_step3
   refine⟨rfl, ?_⟩;go_wp2_with (go_at_call 105;refine(HS.out _ C3.out).mono ?_;rintro e w4 ⟨rfl,c4,f4⟩;have t4:=T3.out.fr f4 hne';obtain⟨z0,z1,z2,z3,z4,z5⟩:=t4.facts);rw[Exit.noGoto_ret]
   go_ret2
   exact TagPost.no HT.out c4 t4 (F3.out.trans f4.l)
 · have hnn1:0<nn.size:=by have hbl:=z1c (r.data.toList.drop 2);rw[←hnn,z1j,h1l,List.length_take];omega
   obtain⟨jE,jE2⟩:=z3k hnn1;have hg:hasPrefix r3.data.toList [62]=true↔r.data.toList[2+z03 (r.data.toList.drop 2)+nB (r.data.toList.drop (2+z03 (r.data.toList.drop 2)))]? =some 62:=by rw[z0g,h3l,List.getElem?_drop,Nat.add_zero]
   obtain⟨r4,hr4⟩:∃r4:ByteArray,(⟨(trimPrefix r3.data.toList [62]).toArray⟩:ByteArray)=r4:=⟨_,rfl⟩;rw[hr4] at e2
   cases hx:hasPrefix r3.data.toList [62] with
   |false=>
    rw[hx] at e2 hg;rw[if_pos (.inr (fun e=>by have:=hg.2 e;cases this))] at htag;have HT:=hide htag;have HE2:=hide e2;clear htag hb0 hnn h1l h2l h3l e2 h0 h47 hnn1 hg hr4 hx;go_enter Tryz.func76,Tryz.ntmps76;go_wp2;refine z6x 0 rfl ?_
    go_wp2_with (first
     |(go_at_call 103;refine(HE1.out _ C0.out).mono ?_;rintro e w1 ⟨rfl,c1,f1⟩)
     |(go_at_call 104;refine(HW.out _ c1).mono ?_;rintro e w2 ⟨rfl,c2,f2⟩;have t2:=(T0.out.fr f1 hne').fr f2 hne';obtain⟨y0,y1,y2,y3,y4,y5⟩:=t2.facts))
    obtain⟨W3,hW3,c3,t3,g3⟩:=zeo c2 t2 hne 2 nn;rw[hW3];have T3:=hide t3;have C3:=hide c3;have F3:=hide (((F0.out.trans f1.l).trans f2.l).trans g3.r);clear hW3 c3 t3 g3
    go_step3
    refine⟨rfl, ?_⟩
    go_wp2_with (first
     |(go_at_call 105;refine(HS.out _ C3.out).mono ?_;rintro e w4 ⟨rfl,c4,f4⟩;have t4:=T3.out.fr f4 hne';obtain⟨z0,z1,z2,z3,z4,z5⟩:=t4.facts)
     |(go_at_call 103;refine(HE2.out _ c4).mono ?_;rintro e w5 ⟨rfl,c5,f5⟩))
    rw[Exit.noGoto_ret]
    go_ret2
    exact TagPost.no HT.out c5 (t4.fr f5 hne') ((F3.out.trans f4.l).trans f5.l)
   |true=>
    have hr5:r4=⟨(r.data.toList.drop (2+z03 (r.data.toList.drop 2)+nB (r.data.toList.drop (2+z03 (r.data.toList.drop 2)))+1)).toArray⟩:=by rw[←hr4];unfold trimPrefix;rw[if_pos hx,h3l,List.drop_drop];rfl
    rw[if_neg (by rintro(e|e);exact hb0 e;exact e (hg.1 hx))] at htag;rw[hx] at e2;have HT:=hide htag;have HE2:=hide e2;have HR:=hide hr5;have HN:=hide (show nn=⟨((r.data.toList.drop 2).take (z03 (r.data.toList.drop 2))).toArray⟩ by rw[←hnn,h1l]);clear htag hb0 hnn h1l h2l h3l e2 h0 h47 hnn1 hg hr4 hx hr5;go_enter Tryz.func76,Tryz.ntmps76;go_wp2;refine z6x 0 rfl ?_
    go_wp2_with (first
     |(go_at_call 103;refine(HE1.out _ C0.out).mono ?_;rintro e w1 ⟨rfl,c1,f1⟩)
     |(go_at_call 104;refine(HW.out _ c1).mono ?_;rintro e w2 ⟨rfl,c2,f2⟩;have t2:=(T0.out.fr f1 hne').fr f2 hne';obtain⟨y0,y1,y2,y3,y4,y5⟩:=t2.facts))
    obtain⟨W3,hW3,c3,t3,g3⟩:=zeo c2 t2 hne 2 nn;rw[hW3];have T3:=hide t3;have C3:=hide c3;have F3:=hide (((F0.out.trans f1.l).trans f2.l).trans g3.r);clear hW3 c3 t3 g3
    go_step3
    refine⟨rfl, ?_⟩
    go_wp2_with (first
     |(go_at_call 105;refine(HS.out _ C3.out).mono ?_;rintro e w4 ⟨rfl,c4,f4⟩;have t4:=T3.out.fr f4 hne';obtain⟨z0,z1,z2,z3,z4,z5⟩:=t4.facts)
     |(go_at_call 103;refine(HE2.out _ c4).mono ?_;rintro e w5 ⟨rfl,c5,f5⟩))
    rw[Exit.noGoto_ret]
    go_ret2
    exact TagPost.yes HT.out c5 HR.out (t4.fr f5 hne') HN.out ((F3.out.trans f4.l).trans f5.l) (Own.nil_ _ _ _ _) (fun k hk=>by cases hk)
end Go.Proofs.YtnlacmnoocigiaaGreatDoor
namespace Go.Proofs.YtnlacmnoocigiaaGreatDoor
open Go.RowKit Go.Lib
attribute [local go_sem ↓] Go.wp_at_zero Go.wp_at_succ
def pairC :Cod (ByteArray×ByteArray) where
 size:=2
 cells x:=[.string x.1,.string x.2]
 len _:=rfl
 one x u hu:=by simp only[List.mem_cons,List.not_mem_nil,or_false] at hu;rcases hu with rfl|rfl<;>rfl
 pos:=by decide
def z3d (x:List UInt8×List UInt8):ByteArray×ByteArray:=(⟨x.1.toArray⟩,⟨x.2.toArray⟩)
theorem zp8 :El Tryz.prog 43 47 2 32:=El.mk (.agg #[.string ⟨#[]⟩,.string ⟨#[]⟩]) Tryz.underlying43 (by kernel_rfl) rfl
theorem zwc (w:World)(x y:ByteArray)(E:TypeId):Rd pairC (w.alloc (.cells #[.string x,.string y] E)) (fun k=>k=w.heap.size) (.slice (some ⟨w.heap.size,0,none⟩) 1 1) [(x,y)]:=by refine⟨_,1,rfl,Nat.le_refl _,by simp[maxLen],fun h=>(by cases h),fun _=>⟨w.heap.size,0,rfl,rfl,fun j u hu=> ?_⟩⟩;rw[cell_of_row _ _ _ _ _ _ (heap_alloc_new w _)];simpa [Cod.flat,pairC] using hu
def zgf (pre:List (List UInt8×List UInt8)):List (List UInt8×List UInt8) ⊕ (Nat×Int)→List (List UInt8×List UInt8) ⊕ (Nat×Int)
 |.inr x=>.inr x
 |.inl r=>.inl (pre++r)
theorem zdb {a:RawA}{l:List RawA}{pre:List (List UInt8×List UInt8)}(h:(z04 a.value).2.2=0):zgf pre (z26 (a::l))=zgf (pre++[(a.name,(z04 a.value).1)]) (z26 l):=by
 rw[z26,if_neg (by simpa using h)]
 cases z26 l with
 |inr x=>rfl
 |inl r=>simp[zgf]
theorem zgg {a:RawA}{l:List RawA}{pre:List (List UInt8×List UInt8)}(h:(z04 a.value).2.2≠0):zgf pre (z26 (a::l))=.inr (a.off+(z04 a.value).2.1,(z04 a.value).2.2):=by rw[z26,if_pos h];rfl
def zt8 (tb p:Nat)(kd:Int)(nm tx:ByteArray)(ta:Int)(R:List (List UInt8×List UInt8) ⊕ (Nat×Int))(w:World)(e:Ending)(w':World):Prop:=
 Fr (fun k=>k=tb) w w'∧match R with
 |.inr (off,er)=>e=.returned (.tuple #[.int .i64 ((p+off:Nat):Int),.int .i64 er])∧∃A m c,TokAt w' tb kd nm (.slice A m c) tx ta
 |.inl vs=>e=.returned (if 32<vs.length then .tuple #[.int .i64 ta,.int .i64 3] else .tuple #[.int .i64 0,.int .i64 0])∧
  ∃A c oa,TokAt w' tb kd nm (.slice A vs.length c) tx ta∧Own pairC w' 47 (.slice A vs.length c) oa (vs.map z3d)∧(∀k,oa=some k→w.heap.size≤k∧k<w'.heap.size)
structure ReadJ (tb p:Nat)(kd:Int)(nm tx:ByteArray)(ta:Int)(ats:List RawA)(R:List (List UInt8×List UInt8) ⊕ (Nat×Int))(w w':World)(k:Nat)(av:Value)(oa:Option Nat)(pre:List (List UInt8×List UInt8)):Prop where
 tok:TokAt w' tb kd nm av tx ta
 own:Own pairC w' 47 av oa (pre.map z3d)
 new:∀x,oa=some x→w.heap.size≤x∧x<w'.heap.size
 fr:Fr (fun x=>x=tb) w w'
 res:zgf pre (z26 (ats.drop k))=R
 len:pre.length=k
set_option maxRecDepth 100000 in
set_option maxHeartbeats 8000000 in
theorem zt9 (tb p:Nat)(kd:Int)(nm tx:ByteArray)(ta:Int)(v:Value)(ats:List RawA)(S:Nat→Prop)(w:World)(ht:TokAt w tb kd nm (.slice none 0 0) tx ta)(hr:Rd rawC w S v (ats.map (rawV p)))
 (hS:∀k,S k→k<w.heap.size∧¬k=tb) (hst:St w) (hfree:Free tb) (hlen:ats.length≤1000000) (hval:∀a∈ats,a.value.length≤100000∧p+a.off≤1000000):
 Calls Tryz.prog 77 #[.pointer (some ⟨tb,0,none⟩),v] w fun e w'=>zt8 tb p kd nm tx ta (z26 ats) w e w':=by
 have H:=hide hr;have HS:=hide hS;have HV:=hide hval;have HST:=hide (fun(W:World) (f:Fr (fun x=>x=tb) w W)=>hst.fr f (fun k hk=>by rw[hk];exact hfree));obtain⟨A,cap,rfl,hlc,hcm, -⟩:=hr;rw[List.length_map] at hlc;have htb:=hide ht.lt;obtain⟨R,hR⟩:∃R,z26 ats=R:=⟨_,rfl⟩;rw[hR];have HJ0:=hide (show ReadJ tb p kd nm tx ta ats R w w 0 (.slice none 0 0) none [] from⟨ht,Own.nil_ _ _ _ _,fun k hk=>(by cases hk),Fr.refl _ _,by rw[List.drop_zero,←hR];cases z26 ats<;>rfl,rfl⟩);clear hR ht hval hS hcm hst hfree;simp only[List.length_map];go_enter Tryz.func77,Tryz.ntmps77;go_wp2_with fail;go_loopw [13] (fun i wr=>∃(k:Nat) (av:Value) (oa:Option Nat) (pre:List (List UInt8×List UInt8)),k≤ats.length∧i=.int .i64 k∧Hid (ReadJ tb p kd nm tx ta ats R w wr k av oa pre)) (fun i _=>ats.length - (Go.RowKit.intOf i).toNat)
 case atStart=>exact⟨0,_,_,_,Nat.zero_le _,rfl,HJ0⟩
 case round=>
  obtain⟨k,av,oa,pre,hk,rfl,hJ⟩:=hrel;by_cases hlt:k<ats.length
  · obtain⟨g,off,cap',hv, -, -,hg,hc⟩:=H.out.at_ (i:=k) (by rw[List.length_map];exact hlt);simp only[List.length_map,Value.slice.injEq,true_and] at hv;obtain⟨rfl,rfl⟩:=hv;obtain⟨hgw,hgt⟩:=HS.out g hg;have hfr:=hJ.out.fr;have q0:=(hfr.cell (p:=⟨g,off+(k*3+0),none⟩) hgw hgt).trans (hc 0 (by decide));have q1:=(hfr.cell (p:=⟨g,off+(k*3+1),none⟩) hgw hgt).trans (hc 1 (by decide));have q2:=(hfr.cell (p:=⟨g,off+(k*3+2),none⟩) hgw hgt).trans (hc 2 (by decide));rw[List.getElem_map] at q0 q1 q2;have hmem:ats[k]∈ats:=List.getElem_mem hlt;obtain⟨v1,v2⟩:=HV.out _ hmem;have hdrop:ats.drop k=ats[k]::ats.drop (k+1):=List.drop_eq_getElem_cons hlt;have hres:=hJ.out.res;rw[hdrop] at hres;generalize ats[k]=a at*;obtain⟨an,hav,ao⟩:=a;simp only[rawV] at q0 q1 q2 v1 v2;obtain⟨xn,hxn⟩:∃xn:ByteArray,(⟨an.toArray⟩:ByteArray)=xn:=⟨_,rfl⟩;obtain⟨xv,hxv⟩:∃xv:ByteArray,(⟨hav.toArray⟩:ByteArray)=xv:=⟨_,rfl⟩;have hxvl:xv.data.toList=hav:=by rw[←hxv]
    have hxvz:xv.size≤100000:=by rw[←hxv,z1j];exact v1
    rw[hxn] at q0;rw[hxv] at q1;simp only[rawC,Nat.add_zero,List.getElem?_cons_zero,List.getElem?_cons_succ,←Nat.add_assoc] at q0 q1 q2;have hd:=fun W hW=>zd4 xv W hW hxvz;rw[hxvl] at hd;unfold wp3 at hd;have hplace:=z2g hav;have hgr:g<wr.heap.size:=Nat.lt_of_lt_of_le hgw hfr.size;have htbr:tb<wr.heap.size:=Nat.lt_of_lt_of_le htb.out hfr.size;have HRES:=hide hres;have hBX:=fun(W:World) (f:Fr (fun _=>False) (wr.alloc (.cells #[.string xn,.string xv,.int .i64 ((p+ao:Nat):Int)] 170)) W)=>show W.heap[wr.heap.size]? =some (.cells #[.string xn,.string xv,.int .i64 ((p+ao:Nat):Int)] 170 (0,0)) from by rw[f.block _ (by simp) (fun h=>h)];exact heap_alloc_new wr _
    have HBX:=hide hBX;obtain⟨dt,hdt⟩:∃dt:ByteArray,(⟨(z04 hav).1.toArray⟩:ByteArray)=dt:=⟨_,rfl⟩;rw[hdt] at hd;clear hc hmem hdrop hres hBX hxvz;by_cases he:(z04 hav).2.2=0
    · have hres:=HRES.out;rw[zdb (by exact he)] at hres;rw[he] at hd;have HRES2:=hide hres;have HD:=hide hd;have hpair:z3d (an,(z04 hav).1)=(xn,dt):=by unfold z3d;rw[hxn,hdt]
      have HPAIR:=hide hpair;generalize (z04 hav).2.1=dk at*;generalize (z04 hav).1=dl at*;clear he hres HRES hxn hxv hxvl hd hdt hpair;go_wp2_with (go_at_call 79;refine(HD.out _ (HST.out _ (hfr.trans (Fr.alloc (Fr.refl _ _) _)))).mono ?_;rintro e w2 ⟨rfl,f2⟩;have r2:=HBX.out _ f2;have t2:=(hJ.out.tok.fr (Fr.alloc (Fr.refl (fun _=>False) wr) _) (fun h=>h)).fr f2 (fun h=>h);have c0:=cell_of_row w2 wr.heap.size 0 _ _ _ r2;have c2:=cell_of_row w2 wr.heap.size 2 _ _ _ r2;simp at c0 c2;obtain⟨z0,z1,z2,z3,z4,z5⟩:=t2.facts);have own2:=(hJ.out.own.fr (Fr.alloc (Fr.refl (fun _=>False) wr) _) (fun _ _ h=>h)).fr f2 (fun _ _ h=>h);have OWN2:=hide own2;have T2:=hide t2;have HLEN:=hide (show pre.length≤1000000 by rw[hJ.out.len];omega);have nb:¬oa=some tb:=fun e=>by have:=(hJ.out.new tb e).1;have:=htb.out;omega
      have hsz2:wr.heap.size+1≤w2.heap.size:=by have:=f2.size;simpa using this
      have ltb:tb<w2.heap.size:=by omega
      have lbx:wr.heap.size<w2.heap.size:=by omega
      clear own2 t2;go_region_law ((refine zbb (by rfl) (by rfl) zp8 (by rfl) (by rfl) (OWN2.out.fr (Fr.alloc (Fr.drew (Fr.refl (fun _=>False) _)) _) (fun _ _ h=>h)) (zwc _ _ _ _) (by have:=HLEN.out;(try simp);omega) ?_;intro A' cap' w3 o' hown hfr' hnew;have hfr1:=(Fr.alloc (Fr.drew (Fr.refl (fun k=>oa=some k) w2)) _).trans hfr';have x1:=(hfr1.cell (p:=⟨tb,2,none⟩) ltb nb).trans z2;have fz:=(hfr1.frozen (p:=⟨tb,2,none⟩) ltb nb).trans (z5 2)))
      all_goals
       go_wp2
       go_roundw
       case rel=>
        have s1:=hfr1.size;have s2:=hfr.size;have hA:=(Fr.alloc (Fr.drew (Fr.refl (fun _=>False) w2)) (.cells #[.string xn,.string dt] 47)).size;have hown2:Own pairC w3 47 (.slice A' (pre.length+1) cap') o' (pre.map z3d++[(xn,dt)]):=by simpa using hown
        have hnew2:∀x,o'=some x→oa=some x∨(w2.heap.size≤x∧x<w3.heap.size):=fun x hx=>(hnew x hx).imp id (fun h=>⟨Nat.le_trans hA h.1,h.2⟩);have s3:=(Fr.set_b w3 tb 2 (.slice A' (pre.length+1) cap')).size;refine⟨k+1,.slice A' (pre.length+1) cap',o',pre++[(an,dl)],by omega,by go_num,hide ⟨(T2.out.fr hfr1 nb).attrs_ _, ?_,fun x hx=> ?_, ?_,HRES2.out,by rw[List.length_append,hJ.out.len];rfl⟩⟩
        · have h1:=hown2.fr (Fr.set_b w3 tb 2 (.slice A' (pre.length+1) cap')) (fun x hx e=>by
           subst e;rcases hnew2 _ hx with h|h
           · exact nb h
           · have:=h.1;omega)
          rw[List.map_append,List.map_cons,List.map_nil,HPAIR.out];exact h1
        · rcases hnew2 x hx with h|h
          · have:=hJ.out.new x h;exact⟨this.1,by omega⟩
          · exact⟨by omega,by omega⟩
        · have g1:Fr (fun x=>x=tb) w w3:=((hfr.trans (Fr.alloc (Fr.refl _ _) _)).trans f2.into).then_ hfr1 (fun x h1 h2=>by have:=(hJ.out.new x h2).1;omega);exact g1.trans (Fr.set_b w3 tb 2 _)
       case measure=>simp[Go.RowKit.intOf];omega
    · have hres:=HRES.out;rw[zgg (by exact he)] at hres;have heb:((z04 hav).2.2 !=0)=true:=by simpa using he
      have HD:=hide hd;have HR:=hide hres;have hpl:(z04 hav).2.1≤100000:=by omega
      clear hres HRES hxn hxv hxvl hd hdt he;simp only at HR;generalize (z04 hav).2.1=dk at*;generalize (z04 hav).2.2=de at*;generalize (z04 hav).1=dl at*;go_wp2_with (go_at_call 79;refine(HD.out _ (HST.out _ (hfr.trans (Fr.alloc (Fr.refl _ _) _)))).mono ?_;rintro e w2 ⟨rfl,f2⟩;have r2:=HBX.out _ f2;have t2:=(hJ.out.tok.fr (Fr.alloc (Fr.refl (fun _=>False) wr) _) (fun h=>h)).fr f2 (fun h=>h);have c0:=cell_of_row w2 wr.heap.size 0 _ _ _ r2;have c2:=cell_of_row w2 wr.heap.size 2 _ _ _ r2;simp at c0 c2;obtain⟨z0,z1,z2,z3,z4,z5⟩:=t2.facts)
      go_ret2
      refine⟨(hfr.trans (Fr.alloc (Fr.refl _ _) _)).trans f2.into, ?_⟩;rw[←HR.out];obtain⟨A2,c2',rfl, -, -⟩:=hJ.out.own.form;refine⟨?_,_,_,_,t2⟩;show Ending.returned (.tuple #[.int .i64 _,.int .i64 _])=_;simp only[Ending.returned.injEq,Value.tuple.injEq];congr 2;simp only[Int.natCast_add];congr 1;omega
  · obtain rfl:k=ats.length:=by omega
    have hres:=hJ.out.res;rw[List.drop_of_length_le (Nat.le_refl _)] at hres;have hres2:R=.inl pre:=by rw[←hres];simp[zgf,z26]
    have HR:=hide hres2;have hfr:=hJ.out.fr;have t2:=hJ.out.tok;have hlen2:=hide hJ.out.len;obtain⟨z0,z1,z2,z3,z4,z5⟩:=t2.facts;clear hres hres2;by_cases h32:32<ats.length
    · have hi:(32:Int)<ats.length:=by omega
      clear hlt;go_wp2_with fail
      go_ret2
      refine⟨hfr, ?_⟩;rw[HR.out];obtain⟨A2,c2',hav2, -, -⟩:=hJ.out.own.form;rw[List.length_map] at hav2;subst hav2;refine⟨?_,_,_,oa,t2,hJ.out.own,hJ.out.new⟩;rw[if_pos (by rw[hlen2.out];exact h32)];rfl
    · have hi:¬(32:Int)<ats.length:=by omega
      have hi2:(ats.length:Int)≤32:=by omega
      clear hlt;go_wp2_with fail
      go_ret2
      refine⟨hfr, ?_⟩;rw[HR.out];obtain⟨A2,c2',hav2, -, -⟩:=hJ.out.own.form;rw[List.length_map] at hav2;subst hav2;refine⟨?_,_,_,oa,t2,hJ.out.own,hJ.out.new⟩;rw[if_neg (by rw[hlen2.out];exact h32)];rfl
end Go.Proofs.YtnlacmnoocigiaaGreatDoor
