/- the reference's tokens: a tag's values, read. -/
import Derived.Test.YtnlacmnoocigiaaGreatDoorRtkD
import Derived.Test.YtnlacmnoocigiaaGreatDoorTokEg
import Derived.Test.YtnlacmnoocigiaaGreatDoorBaseSt
namespace Go.Proofs.YtnlacmnoocigiaaGreatDoor
open Go.RowKit Go.Lib
attribute [local go_sem ↓] Go.wp_at_zero Go.wp_at_succ
def nv (x:RawV):ByteArray×ByteArray:=(x.name,x.value)
def z8u (ats:List RawA)(p:Nat)(kd:Int)(nm:ByteArray)(A:Option Addr)(c:Nat)(ta:Int)(o:Option Nat)(w:World)(e:Ending)(w':World):Prop:=
 Fr (fun k=>o=some k) w w'∧match z26 ats with
 |.inr (off,er)=>e=.returned (.tuple #[.agg #[.int .u8 0,.string ⟨#[]⟩,.slice none 0 0,.string ⟨#[]⟩,.int .i64 0],.int .i64 ((p+off:Nat):Int),.int .i64 er])
 |.inl vs=>if 32<vs.length then e=.returned (.tuple #[.agg #[.int .u8 0,.string ⟨#[]⟩,.slice none 0 0,.string ⟨#[]⟩,.int .i64 0],.int .i64 ta,.int .i64 3]) else
  e=.returned (.tuple #[.agg #[.int .u8 kd,.string nm,.slice A vs.length c,.string ⟨#[]⟩,.int .i64 ta],.int .i64 0,.int .i64 0])∧
  ∃L:List RawV,Own rawC w' 132 (.slice A vs.length c) o L∧L.map nv=vs.map z3d
structure RreadJ (b1 b2 p:Nat)(kd:Int)(nm:ByteArray)(A:Option Addr)(n c:Nat)(ta:Int)(o:Option Nat)(ats:List RawA)(R:List (List UInt8×List UInt8) ⊕ (Nat×Int))(w w':World)(k:Nat)(pre:List (List UInt8×List UInt8))(L:List RawV):Prop where
 par:RTokAt w' b1 kd nm (.slice A n c) ⟨#[]⟩ ta
 box:RTokAt w' b2 0 ⟨#[]⟩ (.slice none 0 0) ⟨#[]⟩ 0
 own:Own rawC w' 132 (.slice A n c) o L
 fr:Fr (fun x=>o=some x) w w'
 res:zgf pre (z26 (ats.drop k))=R
 len:pre.length=k
 done:(L.take k).map nv=pre.map z3d
 todo:L.drop k=(ats.drop k).map (rawV p)
 news:w.heap.size≤b1∧w.heap.size≤b2∧¬b1=b2∧¬o=some b1∧¬o=some b2
set_option maxRecDepth 100000 in
set_option maxHeartbeats 8000000 in
theorem zoz (p:Nat)(kd:Int)(nm:ByteArray)(A:Option Addr)(c:Nat)(ta:Int)(o:Option Nat)(ats:List RawA)(w:World)(hown:Own rawC w 132 (.slice A ats.length c) o (ats.map (rawV p)))
 (hlen:ats.length≤1000000) (hval:∀a∈ats,a.value.length≤100000∧p+a.off≤1000000):
 Calls Tryz.prog 42 #[.agg #[.int .u8 kd,.string nm,.slice A ats.length c,.string ⟨#[]⟩,.int .i64 ta]] w fun e w'=>z8u ats p kd nm A c ta o w e w':=by
 have HV:=hide hval;have holt:=hown.lt;have hb1:¬o=some w.heap.size:=fun e=>by have:=holt _ e;omega
 have hb2:¬o=some (w.heap.size+1):=fun e=>by have:=holt _ e;omega
 obtain⟨R,hR⟩:∃R,z26 ats=R:=⟨_,rfl⟩
 have HPE:=hide (fun(W:World) (off:Nat) (er:Int) (h:R=.inr (off,er)) (f:Fr (fun k=>o=some k) w W)=>show z8u ats p kd nm A c ta o w (.returned (.tuple #[.agg #[.int .u8 0,.string ⟨#[]⟩,.slice none 0 0,.string ⟨#[]⟩,.int .i64 0],.int .i64 ((p+off:Nat):Int),.int .i64 er])) W from
  ⟨f,by rw[hR,h]⟩)
 have HPM:=hide (fun(W:World) (vs:List (List UInt8×List UInt8)) (h:R=.inl vs) (h32:32<vs.length) (f:Fr (fun k=>o=some k) w W)=>show z8u ats p kd nm A c ta o w (.returned (.tuple #[.agg #[.int .u8 0,.string ⟨#[]⟩,.slice none 0 0,.string ⟨#[]⟩,.int .i64 0],.int .i64 ta,.int .i64 3])) W from
  ⟨f,by rw[hR,h];simp only;rw[if_pos h32];trivial⟩)
 have HPO:=hide (fun(W:World) (vs:List (List UInt8×List UInt8)) (L:List RawV) (h:R=.inl vs) (h32:¬32<vs.length) (hn:vs.length=ats.length) (f:Fr (fun k=>o=some k) w W) (ow:Own rawC W 132 (.slice A ats.length c) o L) (hL:L.map nv=vs.map z3d)=>
  show z8u ats p kd nm A c ta o w (.returned (.tuple #[.agg #[.int .u8 kd,.string nm,.slice A ats.length c,.string ⟨#[]⟩,.int .i64 ta],.int .i64 0,.int .i64 0])) W from
  ⟨f,by rw[hR,h];simp only;rw[if_neg h32,hn];exact⟨rfl,L,ow,hL⟩⟩)
 have hj:RreadJ w.heap.size (w.heap.size+1) p kd nm A ats.length c ta o ats R w ((w.alloc (.cells #[.int .u8 kd,.string nm,.slice A ats.length c,.string ⟨#[]⟩,.int .i64 ta] 63)).alloc (.cells #[.int .u8 0,.string ⟨#[]⟩,.slice none 0 0,.string ⟨#[]⟩,.int .i64 0] 63)) 0 [] (ats.map (rawV p)):=by
  refine⟨⟨?_⟩,⟨?_⟩,hown.fr (Fr.alloc (Fr.alloc (Fr.refl (fun _=>False) _) _) _) (fun _ _ h=>h),Fr.alloc (Fr.alloc (Fr.refl _ _) _) _,by rw[List.drop_zero,hR];cases R<;>rfl,rfl,rfl,rfl,by omega,by omega,by omega,hb1,hb2⟩
  · rw[Below.heap_alloc _ _ _ (by simp)];exact heap_alloc_new w _
  · have:=heap_alloc_new (w.alloc (.cells #[.int .u8 kd,.string nm,.slice A ats.length c,.string ⟨#[]⟩,.int .i64 ta] 63)) (.cells #[.int .u8 0,.string ⟨#[]⟩,.slice none 0 0,.string ⟨#[]⟩,.int .i64 0] 63);simpa using this
 have HJ0:=hide hj;have HH:=hide (And.intro hb1 hb2);clear hR hown hval holt hj hb1 hb2;go_enter Tryz.func42,Tryz.ntmps42;go_wp2_with fail;go_loopw [5] (fun iv wr=>∃(k:Nat) (pre:List (List UInt8×List UInt8)) (L:List RawV),k≤ats.length∧iv=.int .i64 k∧Hid (RreadJ w.heap.size (w.heap.size+1) p kd nm A ats.length c ta o ats R w wr k pre L)) (fun iv _=>ats.length - (Go.RowKit.intOf iv).toNat)
 case atStart=>exact⟨0,[],_,Nat.zero_le _,rfl,HJ0⟩
 case round=>
  obtain⟨k,pre,L,hk,rfl,hJ⟩:=hrel;by_cases hlt:k<ats.length
  · have hLl:L.length=ats.length:=by obtain⟨A',c',hv, -, -⟩:=hJ.out.own.form;simp only[Value.slice.injEq] at hv;exact hv.2.1.symm
    have hkL:k<L.length:=by omega
    obtain⟨g,off,cap',hv,hlc,hcm,hg,hc⟩:=hJ.out.own.rd.at_ (i:=k) hkL;simp only[Value.slice.injEq] at hv;obtain⟨rfl,hv2,rfl⟩:=hv;have hLk:L[k]=rawV p ats[k]:=by have h1:=hJ.out.todo;rw[List.drop_eq_getElem_cons hkL,List.drop_eq_getElem_cons hlt,List.map_cons] at h1;injection h1
    have q1:=hc 1 (by decide);have q2:=hc 2 (by decide);rw[hLk] at q1 q2;have hmem:ats[k]∈ats:=List.getElem_mem hlt;obtain⟨v1,v2⟩:=HV.out _ hmem;have hdrop:ats.drop k=ats[k]::ats.drop (k+1):=List.drop_eq_getElem_cons hlt;have hres:=hJ.out.res;rw[hdrop] at hres;have hset:rawC.cells ⟨⟨ats[k].name.toArray⟩,⟨(z04 ats[k].value).1.toArray⟩,((p+ats[k].off:Nat):Int)⟩=(rawC.cells L[k]).set 1 (.string ⟨(z04 ats[k].value).1.toArray⟩):=by rw[hLk];rfl
    have hnv:∀W v,nv ⟨⟨ats[k].name.toArray⟩,v,W⟩=(⟨ats[k].name.toArray⟩,v):=fun _ _=>rfl;have HSET:=hide hset;have hoth:=hide (And.intro hLl hkL);generalize ats[k]=a at*;obtain⟨an,hav,ao⟩:=a;simp only[rawV] at q1 q2 v1 v2;obtain⟨xn,hxn⟩:∃xn:ByteArray,(⟨an.toArray⟩:ByteArray)=xn:=⟨_,rfl⟩;obtain⟨xv,hxv⟩:∃xv:ByteArray,(⟨hav.toArray⟩:ByteArray)=xv:=⟨_,rfl⟩;have hxvl:xv.data.toList=hav:=by rw[←hxv]
    have hxvz:xv.size≤100000:=by rw[←hxv,z1j];exact v1
    rw[hxv] at q1;simp only[rawC,List.getElem?_cons_zero,List.getElem?_cons_succ,←Nat.add_assoc] at q1 q2;have hd:=fun W=>zc0 xv W hxvz;rw[hxvl] at hd;unfold wp3 at hd;have hplace:=z2g hav;have hgr:g<wr.heap.size:=hJ.out.own.lt g hg;have hgf:∀i,wr.frozen? ⟨g,i,none⟩=false:=fun i=>hJ.out.own.frozen rfl (by rw[hg];simp);have hn:=hJ.out.news;have hgb1:¬g=w.heap.size:=fun e=>hn.2.2.2.1 (by rw[hg,e]);have hgb2:¬g=w.heap.size+1:=fun e=>hn.2.2.2.2 (by rw[hg,e]);have HRES:=hide hres;obtain⟨dt,hdt⟩:∃dt:ByteArray,(⟨(z04 hav).1.toArray⟩:ByteArray)=dt:=⟨_,rfl⟩;rw[hdt] at hd;have HG:=hide hg;clear hc hmem hdrop hres hxvz hset hv2 hlc hcm hg;by_cases he:(z04 hav).2.2=0
    · have hres:=HRES.out;rw[zdb (by exact he)] at hres;rw[he] at hd;have HRES2:=hide hres;have HD:=hide hd;have hst:=HSET.out;simp only at hst;rw[hxn,hdt] at hst;have HST:=hide hst;have hpair:z3d (an,(z04 hav).1)=(xn,dt):=by unfold z3d;rw[hxn,hdt]
      have HPAIR:=hide hpair;generalize (z04 hav).2.1=dk at*;generalize (z04 hav).1=dl at*;have HLk:=hide hLk;clear he hres HRES hxn hxv hxvl hd hdt hpair hst HSET hLk hnv;obtain⟨z0,z1,z2,z3,z4,z5⟩:=hJ.out.par.facts;go_wp2_with (go_at_call 39;refine(HD.out _).mono ?_;rintro e w2 ⟨rfl,f2⟩;have P2:=hide (hJ.out.par.fr f2 (fun h=>h));have X2:=hide (hJ.out.box.fr f2 (fun h=>h));have O2:=hide (hJ.out.own.fr f2 (fun _ _ h=>h));obtain⟨u0,u1,u2,u3,u4,u5⟩:=P2.out.facts;have s1:=(f2.cell (p:=⟨g,off+k*3+1,none⟩) hgr (fun h=>h)).trans q1;have hgf2:=fun i=>(f2.frozen (p:=⟨g,i,none⟩) hgr (fun h=>h)).trans (hgf i));go_roundw
      case rel=>
       obtain⟨hLl,hkL⟩:=hoth.out;have o2:=O2.out;rw[HG.out] at o2;have own3:=o2.set1 (i:=k) (j:=1) hkL (by decide) (u:=.string dt) (x':=⟨xn,dt,((p+ao:Nat):Int)⟩) HST.out;have fs:Fr (fun x=>o=some x) w2 (w2.setCell ⟨g,off+(k*3+1),none⟩ (.string dt)):=Fr.setCell (fp:=fun x=>o=some x) (p:=⟨g,off+(k*3+1),none⟩) (Fr.refl _ w2) (.inl HG.out) _;rw[Nat.add_assoc];refine⟨k+1,pre++[(an,dl)],L.set k ⟨xn,dt,((p+ao:Nat):Int)⟩,by omega,by go_num,hide ⟨P2.out.fr fs hn.2.2.2.1,X2.out.fr fs hn.2.2.2.2,by rw[HG.out];exact own3,(hJ.out.fr.trans (f2.mono (fun _ h=>h.elim))).trans fs,HRES2.out,by rw[List.length_append,hJ.out.len];rfl, ?_, ?_,hn⟩⟩
       · rw[List.take_add_one,List.take_set_of_le (Nat.le_refl k),List.getElem?_set_self hkL,Option.toList_some,List.map_append,hJ.out.done,List.map_append,List.map_cons,List.map_nil,List.map_cons,List.map_nil,HPAIR.out];rfl
       · rw[List.drop_set_of_lt (by omega)];have h1:=congrArg (List.drop 1) hJ.out.todo;rw[List.drop_drop,←List.map_drop,List.drop_drop] at h1;exact h1
      case measure=>simp[Go.RowKit.intOf];omega
    · have hres:=HRES.out;rw[zgg (by exact he)] at hres;have heb:((z04 hav).2.2 !=0)=true:=by simpa using he
      have HD:=hide hd;have HR:=hide hres.symm;have hpl:(z04 hav).2.1≤100000:=by omega
      clear hres HRES hxn hxv hxvl hd hdt he;simp only at HR;generalize (z04 hav).2.1=dk at*;generalize (z04 hav).2.2=de at*;generalize (z04 hav).1=dl at*;obtain⟨z0,z1,z2,z3,z4,z5⟩:=hJ.out.par.facts;go_wp2_with (go_at_call 39;refine(HD.out _).mono ?_;rintro e w2 ⟨rfl,f2⟩;have P2:=hide (hJ.out.par.fr f2 (fun h=>h));have X2:=hide (hJ.out.box.fr f2 (fun h=>h));obtain⟨u0,u1,u2,u3,u4,u5⟩:=P2.out.facts;have s2:=(f2.cell (p:=⟨g,off+k*3+2,none⟩) hgr (fun h=>h)).trans q2;obtain⟨t0,t1,t2,t3,t4,t5⟩:=X2.out.facts);go_region;obtain⟨W,hW,tW,fW⟩:=X2.out.store 0 ⟨#[]⟩ (.slice none 0 0) ⟨#[]⟩ 0;rw[hW];go_wp2_with fail;obtain⟨a0,a1,a2,a3,a4,a5⟩:=tW.facts;refine bodyPost_ret (v:=.tuple #[.agg #[.int .u8 0,.string ⟨#[]⟩,.slice none 0 0,.string ⟨#[]⟩,.int .i64 0],.int .i64 (((p+ao:Nat):Int)+dk),.int .i64 de]) (by simp[results,Tryz.results42,go_sem,a0,a1,a2,a3,a4]) rfl ?_;have:=HPE.out W.drew (ao+dk) de HR.out (Fr.drew ((hJ.out.fr.trans (f2.mono (fun _ h=>h.elim))).then_ fW (fun k h1 h2=>by omega)));rw[show ((p+(ao+dk):Nat):Int)=((p+ao:Nat):Int)+dk by omega] at this;exact this
  · obtain rfl:k=ats.length:=by omega
    have hLl:L.length=ats.length:=by obtain⟨A',c',hv, -, -⟩:=hJ.out.own.form;simp only[Value.slice.injEq] at hv;exact hv.2.1.symm
    have hres:=hJ.out.res;rw[List.drop_of_length_le (Nat.le_refl _)] at hres;have hres2:R=.inl pre:=by rw[←hres];simp[zgf,z26]
    have HR:=hide hres2;have hdone:=hJ.out.done;rw[List.take_of_length_le (by omega)] at hdone;have HDN:=hide hdone;have hplen:=hide hJ.out.len;clear hres hres2 hdone hLl;by_cases h32:32<ats.length
    · have hi:(32:Int)<ats.length:=by omega
      clear hlt;obtain⟨z0,z1,z2,z3,z4,z5⟩:=hJ.out.par.facts;obtain⟨y0,y1,y2,y3,y4,y5⟩:=hJ.out.box.facts;go_wp2_with fail;go_region;obtain⟨W,hW,tW,fW⟩:=hJ.out.box.store 0 ⟨#[]⟩ (.slice none 0 0) ⟨#[]⟩ 0;rw[hW];go_wp2_with fail;obtain⟨a0,a1,a2,a3,a4,a5⟩:=tW.facts;refine bodyPost_ret (v:=.tuple #[.agg #[.int .u8 0,.string ⟨#[]⟩,.slice none 0 0,.string ⟨#[]⟩,.int .i64 0],.int .i64 ta,.int .i64 3]) (by simp[results,Tryz.results42,go_sem,a0,a1,a2,a3,a4]) rfl ?_;exact HPM.out W.drew pre HR.out (by rw[hplen.out];exact h32) (Fr.drew (hJ.out.fr.then_ fW (fun k h1 h2=>by have:=hJ.out.news;omega)))
    · have hi:¬(32:Int)<ats.length:=by omega
      have hi2:(ats.length:Int)≤32:=by omega
      clear hlt;obtain⟨z0,z1,z2,z3,z4,z5⟩:=hJ.out.par.facts;obtain⟨y0,y1,y2,y3,y4,y5⟩:=hJ.out.box.facts;go_wp2_with fail;obtain⟨W,hW,tW,fW⟩:=hJ.out.box.store kd nm (.slice A ats.length c) ⟨#[]⟩ ta;rw[hW];obtain⟨a0,a1,a2,a3,a4,a5⟩:=tW.facts;refine bodyPost_ret (v:=.tuple #[.agg #[.int .u8 kd,.string nm,.slice A ats.length c,.string ⟨#[]⟩,.int .i64 ta],.int .i64 0,.int .i64 0]) (by simp[results,Tryz.results42,go_sem,a0,a1,a2,a3,a4]) rfl ?_;have hnn:=hJ.out.news;exact HPO.out W pre L HR.out (by rw[hplen.out];exact h32) hplen.out (hJ.out.fr.then_ fW (fun k h1 h2=>by omega)) (hJ.out.own.fr fW (fun x hx e=>hnn.2.2.2.2 (by rw[hx,e]))) HDN.out
end Go.Proofs.YtnlacmnoocigiaaGreatDoor
