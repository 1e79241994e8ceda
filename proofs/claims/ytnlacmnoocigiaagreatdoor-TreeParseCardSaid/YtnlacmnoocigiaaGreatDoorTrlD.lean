/- tree: a node, written. -/
import Derived.Test.YtnlacmnoocigiaaGreatDoorTrlC
import Derived.Test.YtnlacmnoocigiaaGreatDoorTrkAll
import Derived.Test.YtnlacmnoocigiaaGreatDoorEntI
namespace Go.Proofs.YtnlacmnoocigiaaGreatDoor
open Go.RowKit Go.Lib
attribute [local go_sem ↓] Go.wp_at_zero Go.wp_at_succ
structure WF (b:Nat)(w w':World):Prop where
 below:Below b w w'
 kept:Lib.OthersKept 5 (some b) w w'
namespace WF
variable {b : Nat} {w w' w'' : World}
theorem refl (b:Nat)(w:World):WF b w w:=⟨Below.refl b w,Lib.OthersKept.refl _ _ w⟩
theorem trans (h:WF b w w')(h':WF b w' w''):WF b w w'':=⟨h.below.trans h'.below,h.kept.trans h'.kept⟩
theorem fr (hb:b≤w.heap.size)(f:Fr (fun _=>False) w w'):WF b w w':=⟨f.below hb (fun _ _ h=>h),fun k o hk _ _=>(f.block k (Array.getElem?_eq_some_iff.1 hk).1 (fun h=>h)).trans hk⟩
theorem block (h:WF b w w'){k:Nat}{o:Obj}(hk:w.heap[k]? =some o)(hb:k≠b)(hu:∀c fz,o≠.cells c 5 fz):w'.heap[k]? =some o:=h.kept k o hk (fun e=>hb (Option.some.inj e)) hu
theorem toFr (h:WF b w w'):Fr (fun k=>b≤k) w w':=Fr.of_below h.below (fun _ _ h=>h)
end WF
theorem z96 (a b:ByteArray):(a++b).data.toList=a.data.toList++b.data.toList:=by rw[ByteArray.data_append,Array.toList_append]
def zqk (x:NodeM):Prop:=x.name.size≤1000000∧x.text.size≤100000∧∀a∈x.attrs,a.1.size≤1000000∧a.2.size≤100000
def zql (x:NodeM):Prop:=x.name.size≤1000000∧x.text.size≤100000∧(x.attrs.length≤32→∀a∈x.attrs,a.1.size≤1000000∧a.2.size≤100000)
def ziz (x:NodeM)(k:Fo):List UInt8:=if bare x k then [47,62] else 62::(encL false (txL x)++(k.wr++(60::47::(nmL x++[62]))))
theorem zum (x:NodeM)(k:Fo):(Fo.cons x k .nil).wr=60::(nmL x++(putA (atL x)++ziz x k)):=by rw[Fo.wr,Fo.wr,List.append_nil];rfl
theorem zqm (x:NodeM)(k r:Fo):(Fo.cons x k r).wr=(Fo.cons x k .nil).wr++r.wr:=by have:(Fo.cons x k .nil).wr=(60::(nmL x++(putA (atL x)++ziz x k))):=zum x k;rw[this,Fo.wr];rfl
def mW (n:Nat):Value→Nat
 |.int _ v=>if v<0 then 0 else n - v.toNat
 |_=>0
theorem zf0 {n j m:Nat}{b:Bool}(hj:j<n)(hm:j<m):mW n (.int .i64 (if b=true then -1 else(m:Int)))<mW n (.int .i64 (j:Int)):=by
 cases b with
 |true=>rw[if_pos rfl];show (if(-1:Int)<0 then 0 else n - (-1:Int).toNat)<(if(j:Int)<0 then 0 else n - (j:Int).toNat);rw[if_pos (by omega),if_neg (by omega),Int.toNat_natCast];omega
 |false=>rw[if_neg (by simp)];show (if(m:Int)<0 then 0 else n - (m:Int).toNat)<(if(j:Int)<0 then 0 else n - (j:Int).toNat);rw[if_neg (by omega),if_neg (by omega),Int.toNat_natCast,Int.toNat_natCast];omega
def zqn (A:Option Addr)(n c:Nat)(X:List NodeX)(S:Nat→Prop)(b:Nat)(x:NodeM)(k r:Fo)(p:Int)(i:Nat)(rest:List NodeM):Prop:=
 (X.map (·.model)).drop i=(Fo.cons x k r).flat p i++rest→∀(w:World) (l:List UInt8),St w→NodesRd w S (.slice A n c) X→Bd w b l→l.length+(Fo.cons x k .nil).wr.length≤1000000000→
  Calls Tryz.prog 35 #[.agg #[.slice A n c],.pointer (some ⟨b,0,none⟩),.int .i64 i] w fun e w'=>e=.returned (.tuple #[])∧Bd w' b (l++(Fo.cons x k .nil).wr)∧WF b w w'
set_option maxRecDepth 100000 in
set_option maxHeartbeats 8000000 in
theorem zmf (A:Option Addr)(n c:Nat)(X:List NodeX)(S:Nat→Prop)(b:Nat)(hS:∀k,S k→k<b)(hfree:∀k,b≤k→Free k)(hz:∀x∈X,zqk x.model)(hg:∀x∈X,Good x.model)
 (x:NodeM) (k r:Fo) (p:Int) (i:Nat) (rest:List NodeM) (ih:∀y ky ry (p2:Int) j rest2,ky.size<k.size→zqn A n c X S b y ky ry p2 j rest2):zqn A n c X S b x k r p i rest:=by
 intro hd w l hst hrd hB hlen;obtain⟨hla,hm63⟩:=hrd.rd.lenT;rw[List.length_map] at hla
 have hiX:i<X.length:=by
  rcases Nat.lt_or_ge i X.length with h|h
  · exact h
  · rw[List.drop_of_length_le (by rw[List.length_map];exact h)] at hd;cases hd
 have hmk:X[i].model=Fo.mk x p i k r:=by rw[List.drop_eq_getElem_cons (by rw[List.length_map];exact hiX),List.getElem_map] at hd;exact(List.cons.inj hd).1
 have hkid:(X.map (·.model)).drop (i+1)=k.flat i (i+1)++(r.flat p (i+1+k.size)++rest):=by rw[List.drop_eq_getElem_cons (by rw[List.length_map];exact hiX)] at hd;rw[(List.cons.inj hd).2];exact List.append_assoc _ _ _
 have hbw:b<w.heap.size:=hB.lt;obtain⟨L,hL⟩:∃L,l++(Fo.cons x k .nil).wr=L:=⟨_,rfl⟩;have hLL:L.length≤1000000000:=by rw[←hL,List.length_append];exact hlen
 rw[hL];rw[zum] at hL;have hzx:=hz _ (List.getElem_mem hiX);have hgx:=hg _ (List.getElem_mem hiX);have hox:=hrd.ok _ (List.getElem_mem hiX);obtain⟨g,off,cp,hv, -, -,hgS,hc⟩:=hrd.rd.at_ (i:=i) (by simpa using hiX);simp only[Value.slice.injEq] at hv;obtain⟨rfl, -,rfl⟩:=hv;have q0:=hc 0 (by decide);have q1:=hc 1 (by decide);have q2:=hc 2 (by decide);have q3:=hc 3 (by decide);have q4:=hc 4 (by decide);have q5:=hc 5 (by decide);have q6:=hc 6 (by decide);rw[List.getElem_map] at q0 q1 q2 q3 q4 q5 q6;generalize hxx:X[i]=xx at*;obtain⟨⟨xn,xA,xm,xc,xt,xp,xf,xe,xa⟩,xo,xs⟩:=xx;simp only[NodeX.model] at hmk hzx hgx;have e1:=congrArg NodeM.name hmk;have e2:=congrArg NodeM.attrs hmk;have e3:=congrArg NodeM.text hmk;have e4:=congrArg NodeM.first hmk
 simp only[Fo.mk] at e1 e2 e3 e4;have f0:Fr (fun _=>False) w (w.alloc (.cells #[.slice (some ⟨g,off,none⟩) n c] 31)):=Fr.alloc (Fr.refl _ _) _;have fal:Fr (fun _=>False) w ((w.alloc (.cells #[.slice (some ⟨g,off,none⟩) n c] 31)).alloc (.cells #[.string xn,.slice xA xm xc,.string xt,.int .i64 xp,.int .i64 xf,.int .i64 xe,.int .i64 xa] 45)):=Fr.alloc f0 _;have hb0:((w.alloc (.cells #[.slice (some ⟨g,off,none⟩) n c] 31)).alloc (.cells #[.string xn,.slice xA xm xc,.string xt,.int .i64 xp,.int .i64 xf,.int .i64 xe,.int .i64 xa] 45)).heap[w.heap.size]? =some (.cells #[.slice (some ⟨g,off,none⟩) n c] 31 (0,0)):=by rw[Below.heap_alloc _ _ _ (by simp)];exact heap_alloc_new w _
 have hb1:((w.alloc (.cells #[.slice (some ⟨g,off,none⟩) n c] 31)).alloc (.cells #[.string xn,.slice xA xm xc,.string xt,.int .i64 xp,.int .i64 xf,.int .i64 xe,.int .i64 xa] 45)).heap[w.heap.size+1]? =some (.cells #[.string xn,.slice xA xm xc,.string xt,.int .i64 xp,.int .i64 xf,.int .i64 xe,.int .i64 xa] 45 (0,0)):=by have:=heap_alloc_new (w.alloc (.cells #[.slice (some ⟨g,off,none⟩) n c] 31)) (.cells #[.string xn,.slice xA xm xc,.string xt,.int .i64 xp,.int .i64 xf,.int .i64 xe,.int .i64 xa] 45);simpa using this
 have HB0:=hide (hB.fr fal);have HWF:=hide (WF.fr (Nat.le_of_lt hbw) fal);have HSZ:=hide (show b≤((w.alloc (.cells #[.slice (some ⟨g,off,none⟩) n c] 31)).alloc (.cells #[.string xn,.slice xA xm xc,.string xt,.int .i64 xp,.int .i64 xf,.int .i64 xe,.int .i64 xa] 45)).heap.size from Nat.le_trans (Nat.le_of_lt hbw) fal.size)
 have HALL:=hide (show ∀W,WF b ((w.alloc (.cells #[.slice (some ⟨g,off,none⟩) n c] 31)).alloc (.cells #[.string xn,.slice xA xm xc,.string xt,.int .i64 xp,.int .i64 xf,.int .i64 xe,.int .i64 xa] 45)) W→
  St W∧NodesRd W S (.slice (some ⟨g,off,none⟩) n c) X∧Rd pairC W S (.slice xA xm xc) xs∧W.cell? ⟨w.heap.size,0,none⟩=some (.slice (some ⟨g,off,none⟩) n c)∧W.cell? ⟨w.heap.size+1,0,none⟩=some (.string xn)∧W.cell? ⟨w.heap.size+1,1,none⟩=some (.slice xA xm xc)∧W.cell? ⟨w.heap.size+1,2,none⟩=some (.string xt)∧W.cell? ⟨w.heap.size+1,4,none⟩=some (.int .i64 xf) from fun W h=>by
  have hf:=h.toFr;have g0:=h.block hb0 (by omega) (fun c fz e=>by cases e);have g1:=h.block hb1 (by omega) (fun c fz e=>by cases e);refine⟨(hst.same fal).fr hf hfree,(hrd.fr fal (fun k hk=>⟨by have:=hS k hk;omega,fun h=>h⟩)).fr hf (fun k hk=>⟨by have:=hS k hk;have:=fal.size;omega,by have:=hS k hk;omega⟩), ?_, ?_, ?_, ?_, ?_, ?_⟩
  · have hox:Rd pairC w S (.slice xA xm xc) xs:=hox;exact(hox.fr fal (fun k hk=>⟨by have:=hS k hk;omega,fun h=>h⟩)).fr hf (fun k hk=>⟨by have:=hS k hk;have:=fal.size;omega,by have:=hS k hk;omega⟩)
  · rw[cell_of_row _ _ _ _ _ _ g0];rfl
  all_goals
   rw[cell_of_row _ _ _ _ _ _ g1];rfl)
 have hox2:Rd pairC w S (.slice xA xm xc) xs:=hox;obtain⟨hlx,hx63⟩:=hox2.lenT;obtain⟨z1,z2,z3⟩:=hzx;obtain⟨v1,v2, -, -,v5, -⟩:=hgx;have v5:(z0h xt.data.toList).2=0:=v5;have z1:xn.size≤1000000:=z1;have z2:xt.size≤100000:=z2;have HZ3:=hide z3;have HV2:=hide v2;have hen:z61 false xt.data.toList=(encL false xt.data.toList,0):=by unfold z61;rw[if_pos v5]
 have HHE:=hide (fun(W:World) (h:St W)=>show Calls Tryz.prog 64 #[.string xt,.bool false] W fun e w'=>e=.returned (wp2 (encL false xt.data.toList,0))∧Fr (fun _=>False) W w' from by have:=zd5 xt false W h z2;rw[hen] at this;exact this);have hel:(encL false xt.data.toList).length≤600000:=by have:=zkt false xt.data.toList;have:xt.data.toList.length=xt.size:=rfl;omega
 have HAT:=hide (show atL x=xs.map (fun a=>(a.1.data.toList,a.2.data.toList)) from by unfold atL;rw[←e2]);have HNM:=hide (show nmL x=xn.data.toList from by unfold nmL;rw[←e1]);have HTX:=hide (show txL x=xt.data.toList from by unfold txL;rw[←e3]);have HTS:=hide (show x.text.size=xt.size from by rw[←e3]);have HFI:=hide e4;have HLX:=hide hlx;have HLEN:=hide hLL;have HL:=hide hL;have HKID:=hide hkid;have hin:(i:Int)<n:=by omega
 have hi0:(0:Int)≤i:=by omega
 simp only[nodeC,Nat.add_zero,List.getElem?_cons_zero,List.getElem?_cons_succ,←Nat.add_assoc] at q0 q1 q2 q3 q4 q5 q6;have hgw:g<w.heap.size:=by have:=hS g hgS;omega
 have r0:=(f0.cell (p:=⟨g,off+i*7,none⟩) hgw (fun h=>h)).trans q0;have r1:=(f0.cell (p:=⟨g,off+i*7+1,none⟩) hgw (fun h=>h)).trans q1;have r2:=(f0.cell (p:=⟨g,off+i*7+2,none⟩) hgw (fun h=>h)).trans q2;have r3:=(f0.cell (p:=⟨g,off+i*7+3,none⟩) hgw (fun h=>h)).trans q3;have r4:=(f0.cell (p:=⟨g,off+i*7+4,none⟩) hgw (fun h=>h)).trans q4;have r5:=(f0.cell (p:=⟨g,off+i*7+5,none⟩) hgw (fun h=>h)).trans q5;have r6:=(f0.cell (p:=⟨g,off+i*7+6,none⟩) hgw (fun h=>h)).trans q6;have HIH:=hide ih;have HWB:=hide hbw;have HHX:=hide hla;clear q0 q1 q2 q3 q4 q5 q6 hgw hd hrd hB hlen hmk hkid hLL hL hz hg hS hfree hst hc hgS hxx hox hox2 e1 e2 e3 e4 f0 fal hb0 hb1 hlx z3 v1 v2 v5 hen ih hbw hla hiX;go_enter Tryz.func35,Tryz.ntmps35;obtain⟨s1,s2,s3,s4,s5,s6,s7,s8⟩:=HALL.out _ (WF.refl _ _);clear s1 s2 s3;go_wp2_with (go_at_call 63;refine(z0k b l _ _ HB0.out (by rw[ByteArray.size_append];have:=HL.out;have h2:=HLEN.out;rw[←this,List.length_append] at h2;have h3:(⟨#[60]⟩:ByteArray).size=1:=rfl;omega)).mono ?_;rintro e w1 ⟨rfl,hB1,hbl1,hk1⟩;have HBD1:=hide hB1;have HW1:=hide (show WF b _ w1 from⟨hbl1,hk1⟩);clear hB1 hbl1 hk1;obtain⟨-, -, -,t4,t5,t6,t7,t8⟩:=HALL.out w1 HW1.out);generalize ((w.alloc (.cells #[.slice (some ⟨g,off,none⟩) n c] 31)).alloc (.cells #[.string xn,.slice xA xm xc,.string xt,.int .i64 xp,.int .i64 xf,.int .i64 xe,.int .i64 xa] 45))=W0 at*;have HL1:=hide (show (l++((⟨#[60]⟩:ByteArray)++xn).data.toList)++(putA ((atL x).drop 0)++ziz x k)=L from by rw[←HL.out,z96,HNM.out,List.drop_zero];simp);clear s4 s5 s6 s7 s8 t4 t5 t6 t7 t8 r0 r1 r2 r3 r4 r5 r6;go_loopw [27] (fun jv wr=>∃(j:Nat) (l2:List UInt8),jv=.int .i64 j∧j≤xm∧Hid (WF b W0 wr)∧Hid (Bd wr b l2)∧Hid (l2++(putA ((atL x).drop j)++ziz x k)=L)) (fun jv _=>xm - (Go.RowKit.intOf jv).toNat)
 case atStart=>exact⟨0,_,rfl,Nat.zero_le _,HW1,HBD1,HL1⟩
 case round=>
  obtain⟨j,l2,rfl,hj,hwf,hbd,hl2⟩:=hrel;clear HBD1 HL1;obtain⟨k1,k2,k3,k4,k5,k6,k7,k8⟩:=HALL.out _ hwf.out;by_cases hlt:j<xm
  · have hji:(j:Int)<xm:=by omega
    have hjx:j<xs.length:=by rw[HLX.out];exact hlt
    obtain⟨ga,offa,ca,hva, -, -,hga,hca⟩:=k3.at_ hjx;simp only[Value.slice.injEq] at hva;obtain⟨rfl, -,rfl⟩:=hva;have a0:=hca 0 (by decide);have a1:=hca 1 (by decide);have hmem:=List.getElem_mem hjx;have hzz:=HZ3.out _ hmem;have hput:putA ((atL x).drop j)=32::(xs[j].1.data.toList++61::34::(encL true xs[j].2.data.toList++[34]))++putA ((atL x).drop (j+1)):=by rw[HAT.out,List.drop_eq_getElem_cons (by rw[List.length_map];exact hjx),zqg,List.getElem_map]
    have hval:(z0h xs[j].2.data.toList).2=0:=(HV2.out (xs[j].1.data.toList,xs[j].2.data.toList) (List.mem_map_of_mem (f:=fun a:ByteArray×ByteArray=>(a.1.data.toList,a.2.data.toList)) hmem)).2;have hl3:=hl2.out;rw[hput] at hl3;generalize xs[j]=av at*;obtain⟨an,av⟩:=av;simp only[pairC,Nat.add_zero,List.getElem?_cons_zero,List.getElem?_cons_succ,←Nat.add_assoc] at a0 a1;have han:an.size≤1000000:=hzz.1;have hav:av.size≤100000:=hzz.2;have hen:z61 true av.data.toList=(encL true av.data.toList,0):=by unfold z61;rw[if_pos hval]
    have hstw:=k1;have fa2:Fr (fun _=>False) wr (wr.alloc (.cells #[.string an,.string av] 47)):=Fr.alloc (Fr.refl _ _) _;have HE:=hide (show Calls Tryz.prog 64 #[.string av,.bool true] (wr.alloc (.cells #[.string an,.string av] 47)) fun e w'=>e=.returned (wp2 (encL true av.data.toList,0))∧Fr (fun _=>False) (wr.alloc (.cells #[.string an,.string av] 47)) w' from by have:=zd5 av true _ (hstw.same fa2) hav;rw[hen] at this;exact this);have hvl:(⟨(encL true av.data.toList).toArray⟩:ByteArray).size≤600000:=by show (encL true av.data.toList).toArray.size≤_;rw[List.size_toArray];have:=zkt true av.data.toList;have:av.data.toList.length=av.size:=rfl;omega
    have hvd:(⟨(encL true av.data.toList).toArray⟩:ByteArray).data.toList=encL true av.data.toList:=by simp
    have hab:=heap_alloc_new wr (.cells #[.string an,.string av] 47);have HAB:=hide (fun(W:World) (f:Fr (fun _=>False) (wr.alloc (.cells #[.string an,.string av] 47)) W)=>show W.cell? ⟨wr.heap.size,0,none⟩=some (.string an) from by rw[f.cell (by simp) (fun h=>h),cell_of_row _ _ _ _ _ _ hab];rfl);have HF2:=hide fa2;have HL3:=hide hl3;have hbsz:b≤wr.heap.size:=by have:=hbd.out.lt;omega
    have HBS:=hide hbsz;unfold wp2 at HE;generalize (⟨(encL true av.data.toList).toArray⟩:ByteArray)=ev at*;have HVD:=hide hvd;clear k1 k2 k3 hca hga hjx hmem hzz hput hval hl3 hen hstw fa2 hab hvd hbsz
    go_wp2_with (first
     |(go_at_call 64;refine HE.out.mono ?_;rintro e w2 ⟨rfl,hf2⟩;have FF2:=hide hf2;have u0:=HAB.out w2 hf2;clear hf2)
     |(go_at_call 63;refine(z0k b l2 _ _ (hbd.out.fr (HF2.out.trans FF2.out)) (by have h2:=HLEN.out;rw[←HL3.out,List.length_append] at h2;simp only[ByteArray.size_append];have h3:(⟨#[32]⟩:ByteArray).size=1:=rfl;have h4:(⟨#[61,34]⟩:ByteArray).size=2:=rfl;have h5:(⟨#[34]⟩:ByteArray).size=1:=rfl;omega)).mono ?_;rintro e w3 ⟨rfl,hB3,hbl3,hk3⟩;have HB3:=hide hB3;have HW3:=hide ((hwf.out.trans (WF.fr HBS.out (HF2.out.trans FF2.out))).trans ⟨hbl3,hk3⟩);clear hB3 hbl3 hk3))
    exact⟨⟨j+1,_,by go_num,by omega,HW3,HB3,hide (by rw[←HL3.out];simp only[z96,HVD.out];simp)⟩,by simp[Go.RowKit.intOf];omega⟩
  · have hji:¬(j:Int)<xm:=by omega
    have hjm:j=xm:=by omega
    have hl3:l2++ziz x k=L:=by rw[←hl2.out,hjm,HAT.out,List.drop_of_length_le (by rw[List.length_map,HLX.out];exact Nat.le_refl _)];simp[putA]
    have HBS:=hide (show b≤wr.heap.size from by have:=hbd.out.lt;omega);have htsz:l2.length≤1000000000:=by have h2:=HLEN.out;rw[←hl3,List.length_append] at h2;omega
    by_cases hb:bare x k
    · have hsz:xt.size=0:=by rw[←HTS.out];exact hb.1
      obtain rfl:xt=⟨#[]⟩:=zku hsz;have hfi:xf= -1:=by rw[HFI.out,hb.2];rfl
      subst hfi;have hl4:l2++[47,62]=L:=by rw[←hl3,ziz,if_pos hb]
      have HL4:=hide hl4;clear hl3 k1 k2 k3;go_wp2_with (go_at_call 63;refine(z0k b l2 _ _ hbd.out (by have:(⟨#[47,62]⟩:ByteArray).size=2:=rfl;omega)).mono ?_;rintro e w3 ⟨rfl,hB3,hbl3,hk3⟩);refine bodyPost_ret (v:=.tuple #[]) (by simp[results,Tryz.results35,go_sem]) rfl ?_;refine⟨rfl, ?_,HWF.out.trans (hwf.out.trans ⟨hbl3,hk3⟩)⟩;rw[←HL4.out];exact hB3
    · have hl4:l2++62::(encL false xt.data.toList++(k.wr++(60::47::(xn.data.toList++[62]))))=L:=by rw[←hl3,ziz,if_neg hb,HTX.out,HNM.out]
      have hcase:(xt.size=0∧¬xf= -1)∨¬xt.size=0:=by
       by_cases hsz:xt.size=0
       · refine .inl ⟨hsz,fun e=>hb ⟨by rw[HTS.out];exact hsz, ?_⟩⟩
         cases hn:k.isNil with
         |true=>rfl
         |false=>rw[HFI.out,hn] at e;simp only[Bool.false_eq_true,if_false] at e;omega
       · exact .inr hsz
      have HE:=hide (HHE.out wr k1);have hed:(⟨(encL false xt.data.toList).toArray⟩:ByteArray).data.toList=encL false xt.data.toList:=by simp
      have hes:(⟨(encL false xt.data.toList).toArray⟩:ByteArray).size≤600000:=by show (encL false xt.data.toList).toArray.size≤_;rw[List.size_toArray];exact hel
      rw[←hed] at hl4;unfold wp2 at HE;have HL4:=hide hl4;have HEV:=hide hed;generalize (⟨(encL false xt.data.toList).toArray⟩:ByteArray)=ev at*;have HCL:=hide (show (60::47::(xn.data.toList++[62]):List UInt8)=((⟨#[60,47]⟩:ByteArray)++xn++(⟨#[62]⟩:ByteArray)).data.toList from by simp[z96]);have hK0:∀w3,Bd w3 b (l2++((⟨#[62]⟩:ByteArray)++ev).data.toList)→True:=fun _ _=>trivial;have HST0:=hide (show (l2++((⟨#[62]⟩:ByteArray)++ev).data.toList)++(k.wr++(60::47::(xn.data.toList++[62])))=L from by rw[←hl4,z96];simp);have HBD2:=hide (fun(W:World) (f:Fr (fun _=>False) wr W)=>(hbd.out.fr f));have HXF:=hide (show xf=(if k.isNil=true then -1 else((i+1:Nat):Int)) from HFI.out);clear hK0 HHE hel hed hl3 hl4 hb HTX HTS HL hl2 HFI k1 k2 k3;rcases hcase with ⟨hsz,hxf⟩|hsz
      · obtain rfl:xt=⟨#[]⟩:=zku hsz;have hxf2:(xf== -1)=false:=by rw[beq_eq_false_iff_ne];exact hxf
        go_wp2_with (first
         |(go_at_call 64;refine HE.out.mono ?_;rintro e w3 ⟨rfl,hf3⟩;have FF3:=hide hf3;clear hf3)
         |(go_at_call 63;refine(z0k b l2 _ _ (HBD2.out _ FF3.out) (by simp only[ByteArray.size_append];have:(⟨#[62]⟩:ByteArray).size=1:=rfl;omega)).mono ?_;rintro e w4 ⟨rfl,hB4,hbl4,hk4⟩;have HB4:=hide hB4;have HW4:=hide ((hwf.out.trans (WF.fr HBS.out FF3.out)).trans ⟨hbl4,hk4⟩);have y8:=(HALL.out w4 HW4.out).2.2.2.2.2.2.2;clear hB4 hbl4 hk4))
        have HBZ:=hide (show (l2++((⟨#[62]⟩:ByteArray)++ev).data.toList).length≤1000000000 from by have h2:=HLEN.out;rw[←HST0.out,List.length_append] at h2;omega);go_loopw [13] (fun vv wr=>∃(G:Fo) (j:Nat) (l3:List UInt8) (rest2:List NodeM),vv=.int .i64 (if G.isNil=true then -1 else(j:Int))∧Hid ((X.map (·.model)).drop j=G.flat i j++rest2∧G.size≤k.size)∧Hid (WF b W0 wr)∧Hid (Bd wr b l3)∧Hid (l3++(G.wr++(60::47::(xn.data.toList++[62])))=L)) (fun vv _=>mW n vv)
        case atStart=>exact⟨k,i+1,_,_,by rw[HXF.out],hide ⟨HKID.out,Nat.le_refl _⟩,HW4,HB4,HST0⟩
        case round=>
         obtain⟨G,j,l3,rest2,rfl,hG,hwf3,hbd3,hl3⟩:=hrel;clear HB4 y8;obtain⟨k1,k2, -,m4,m5,m6,m7,m8⟩:=HALL.out _ hwf3.out
         cases G with
         |nil=>
          have hl5:=hl3.out;rw[Fo.wr,List.nil_append] at hl5;have hnil:(if Fo.nil.isNil=true then(-1:Int) else(j:Int))= -1:=rfl;rw[hnil];rw[HCL.out] at hl5;have HL5:=hide hl5;clear hl5 hnil;go_wp2_with (go_at_call 63;refine(z0k b l3 _ _ hbd3.out (by have h2:=HLEN.out;rw[←HL5.out,List.length_append] at h2;simp only[ByteArray.size_append];have h4:(⟨#[60,47]⟩:ByteArray).size=2:=rfl;have h5:(⟨#[62]⟩:ByteArray).size=1:=rfl;omega)).mono ?_;rintro e w5 ⟨rfl,hB5,hbl5,hk5⟩)
          first
           |go_end0
           |refine bodyPost_ret (v:=.tuple #[]) (by simp[results,Tryz.results35,go_sem]) rfl ?_
          refine⟨rfl, ?_,HWF.out.trans (hwf3.out.trans ⟨hbl5,hk5⟩)⟩;rw[←HL5.out];exact hB5
         |cons y ky ry=>
          have hnn:(if(Fo.cons y ky ry).isNil=true then(-1:Int) else(j:Int))=(j:Int):=rfl;rw[hnn];obtain⟨hd,hsz2⟩:=hG.out
          have hjX:j<X.length:=by
           rcases Nat.lt_or_ge j X.length with h|h
           · exact h
           · rw[List.drop_of_length_le (by rw[List.length_map];exact h)] at hd;cases hd
          have hjn:j<n:=by rw[←HHX.out];exact hjX
          have hmk:X[j].model=Fo.mk y i j ky ry:=by have hd2:=hd;rw[List.drop_eq_getElem_cons (by rw[List.length_map];exact hjX),List.getElem_map] at hd2;exact(List.cons.inj hd2).1
          have hnx:X[j].v.next=(if ry.isNil=true then -1 else((j+1+ky.size:Nat):Int)):=congrArg NodeM.next hmk;have hd3:(X.map (·.model)).drop (j+1+ky.size)=ry.flat i (j+1+ky.size)++rest2:=by have h1:=congrArg (List.drop (1+ky.size)) hd;rw[List.drop_drop] at h1;rw[show j+1+ky.size=j+(1+ky.size) from by omega,h1,Fo.flat,List.cons_append,Nat.add_comm 1 ky.size,List.drop_succ_cons,List.append_assoc];have:=Fo.flat_len ky (j:Int) (j+1);rw[show ky.size=(ky.flat (j:Int) (j+1)).length from this.symm,List.drop_left,this,show j+(ky.size+1)=j+1+ky.size from by omega]
          have hks:ky.size<k.size:=by have:(Fo.cons y ky ry).size=1+ky.size+ry.size:=rfl;omega
          have hrs:ry.size≤k.size:=by have:(Fo.cons y ky ry).size=1+ky.size+ry.size:=rfl;omega
          have hl5:=hl3.out;rw[zqm,List.append_assoc,←List.append_assoc] at hl5;have hlb:l3.length+(Fo.cons y ky .nil).wr.length≤1000000000:=by have h2:=HLEN.out;rw[←hl5,List.length_append,List.length_append] at h2;omega
          have HC:=hide (HIH.out y ky ry i j rest2 hks hd wr l3 k1 k2 hbd3.out hlb);have HN5:=hide (fun(W:World) (h:WF b W0 W)=>show W.cell? ⟨g,off+j*7+5,none⟩=some (.int .i64 (if ry.isNil=true then -1 else((j+1+ky.size:Nat):Int))) from by obtain⟨g2,off2,cp2,hv2, -, -, -,hc2⟩:=(HALL.out W h).2.1.rd.at_ (i:=j) (by simpa using hjX);simp only[Value.slice.injEq,Option.some.injEq,Addr.mk.injEq] at hv2;obtain⟨⟨rfl,rfl, -⟩, -⟩:=hv2;have h5:=hc2 5 (by decide);rw[List.getElem_map] at h5;rw[Nat.add_assoc,←hnx];exact h5);have HD3:=hide (And.intro hd3 hrs);have HL5:=hide hl5;have hji:(j:Int)<n:=by omega
          have hj0:(0:Int)≤j:=by omega
          have hj1:((j:Int)== -1)=false:=by rw[beq_eq_false_iff_ne];omega
          have HME:=hide (zf0 (n:=n) (j:=j) (m:=j+1+ky.size) (b:=ry.isNil) hjn (by omega));clear hd hsz2 hjX hmk hnx hd3 hks hrs hl5 hlb k1 k2 hnn;generalize hnv:(if ry.isNil=true then(-1:Int) else((j+1+ky.size:Nat):Int))=nv at*;have HNV:=hide hnv;clear hnv;go_wp2_with (go_at_call 35;refine HC.out.mono ?_;rintro e w5 ⟨rfl,hB5,hW5⟩;have HB5:=hide hB5;have HW5:=hide (hwf3.out.trans hW5);have n5:=HN5.out w5 HW5.out;obtain⟨-, -, -,o4,o5, -, -, -⟩:=HALL.out w5 HW5.out;clear hB5 hW5);exact⟨⟨ry,j+1+ky.size,_,rest2,by rw[HNV.out],hide HD3.out,HW5,HB5,hide (by rw[←HL5.out])⟩,HME.out⟩
      · have hE:=z2c (P:=xt) (by omega);have hE2:=z6d (P:=xt) (by omega)
        go_wp2_with (first
         |(go_at_call 64;refine HE.out.mono ?_;rintro e w3 ⟨rfl,hf3⟩;have FF3:=hide hf3;obtain⟨-, -, -, -, -, -, -,y8⟩:=HALL.out w3 (hwf.out.trans (WF.fr HBS.out hf3));clear hf3)
         |(go_at_call 63;refine(z0k b l2 _ _ (HBD2.out _ FF3.out) (by simp only[ByteArray.size_append];have:(⟨#[62]⟩:ByteArray).size=1:=rfl;omega)).mono ?_;clear y8;rintro e w4 ⟨rfl,hB4,hbl4,hk4⟩;have HB4:=hide hB4;have HW4:=hide ((hwf.out.trans (WF.fr HBS.out FF3.out)).trans ⟨hbl4,hk4⟩);have y8:=(HALL.out w4 HW4.out).2.2.2.2.2.2.2;clear hB4 hbl4 hk4))
        have HBZ:=hide (show (l2++((⟨#[62]⟩:ByteArray)++ev).data.toList).length≤1000000000 from by have h2:=HLEN.out;rw[←HST0.out,List.length_append] at h2;omega);go_loopw [13] (fun vv wr=>∃(G:Fo) (j:Nat) (l3:List UInt8) (rest2:List NodeM),vv=.int .i64 (if G.isNil=true then -1 else(j:Int))∧Hid ((X.map (·.model)).drop j=G.flat i j++rest2∧G.size≤k.size)∧Hid (WF b W0 wr)∧Hid (Bd wr b l3)∧Hid (l3++(G.wr++(60::47::(xn.data.toList++[62])))=L)) (fun vv _=>mW n vv)
        case atStart=>exact⟨k,i+1,_,_,by rw[HXF.out],hide ⟨HKID.out,Nat.le_refl _⟩,HW4,HB4,HST0⟩
        case round=>
         obtain⟨G,j,l3,rest2,rfl,hG,hwf3,hbd3,hl3⟩:=hrel;clear HB4 y8;obtain⟨k1,k2, -,m4,m5,m6,m7,m8⟩:=HALL.out _ hwf3.out
         cases G with
         |nil=>
          have hl5:=hl3.out;rw[Fo.wr,List.nil_append] at hl5;have hnil:(if Fo.nil.isNil=true then(-1:Int) else(j:Int))= -1:=rfl;rw[hnil];rw[HCL.out] at hl5;have HL5:=hide hl5;clear hl5 hnil;go_wp2_with (go_at_call 63;refine(z0k b l3 _ _ hbd3.out (by have h2:=HLEN.out;rw[←HL5.out,List.length_append] at h2;simp only[ByteArray.size_append];have h4:(⟨#[60,47]⟩:ByteArray).size=2:=rfl;have h5:(⟨#[62]⟩:ByteArray).size=1:=rfl;omega)).mono ?_;rintro e w5 ⟨rfl,hB5,hbl5,hk5⟩)
          first
           |go_end0
           |refine bodyPost_ret (v:=.tuple #[]) (by simp[results,Tryz.results35,go_sem]) rfl ?_
          refine⟨rfl, ?_,HWF.out.trans (hwf3.out.trans ⟨hbl5,hk5⟩)⟩;rw[←HL5.out];exact hB5
         |cons y ky ry=>
          have hnn:(if(Fo.cons y ky ry).isNil=true then(-1:Int) else(j:Int))=(j:Int):=rfl;rw[hnn];obtain⟨hd,hsz2⟩:=hG.out
          have hjX:j<X.length:=by
           rcases Nat.lt_or_ge j X.length with h|h
           · exact h
           · rw[List.drop_of_length_le (by rw[List.length_map];exact h)] at hd;cases hd
          have hjn:j<n:=by rw[←HHX.out];exact hjX
          have hmk:X[j].model=Fo.mk y i j ky ry:=by have hd2:=hd;rw[List.drop_eq_getElem_cons (by rw[List.length_map];exact hjX),List.getElem_map] at hd2;exact(List.cons.inj hd2).1
          have hnx:X[j].v.next=(if ry.isNil=true then -1 else((j+1+ky.size:Nat):Int)):=congrArg NodeM.next hmk;have hd3:(X.map (·.model)).drop (j+1+ky.size)=ry.flat i (j+1+ky.size)++rest2:=by have h1:=congrArg (List.drop (1+ky.size)) hd;rw[List.drop_drop] at h1;rw[show j+1+ky.size=j+(1+ky.size) from by omega,h1,Fo.flat,List.cons_append,Nat.add_comm 1 ky.size,List.drop_succ_cons,List.append_assoc];have:=Fo.flat_len ky (j:Int) (j+1);rw[show ky.size=(ky.flat (j:Int) (j+1)).length from this.symm,List.drop_left,this,show j+(ky.size+1)=j+1+ky.size from by omega]
          have hks:ky.size<k.size:=by have:(Fo.cons y ky ry).size=1+ky.size+ry.size:=rfl;omega
          have hrs:ry.size≤k.size:=by have:(Fo.cons y ky ry).size=1+ky.size+ry.size:=rfl;omega
          have hl5:=hl3.out;rw[zqm,List.append_assoc,←List.append_assoc] at hl5;have hlb:l3.length+(Fo.cons y ky .nil).wr.length≤1000000000:=by have h2:=HLEN.out;rw[←hl5,List.length_append,List.length_append] at h2;omega
          have HC:=hide (HIH.out y ky ry i j rest2 hks hd wr l3 k1 k2 hbd3.out hlb);have HN5:=hide (fun(W:World) (h:WF b W0 W)=>show W.cell? ⟨g,off+j*7+5,none⟩=some (.int .i64 (if ry.isNil=true then -1 else((j+1+ky.size:Nat):Int))) from by obtain⟨g2,off2,cp2,hv2, -, -, -,hc2⟩:=(HALL.out W h).2.1.rd.at_ (i:=j) (by simpa using hjX);simp only[Value.slice.injEq,Option.some.injEq,Addr.mk.injEq] at hv2;obtain⟨⟨rfl,rfl, -⟩, -⟩:=hv2;have h5:=hc2 5 (by decide);rw[List.getElem_map] at h5;rw[Nat.add_assoc,←hnx];exact h5);have HD3:=hide (And.intro hd3 hrs);have HL5:=hide hl5;have hji:(j:Int)<n:=by omega
          have hj0:(0:Int)≤j:=by omega
          have hj1:((j:Int)== -1)=false:=by rw[beq_eq_false_iff_ne];omega
          have HME:=hide (zf0 (n:=n) (j:=j) (m:=j+1+ky.size) (b:=ry.isNil) hjn (by omega));clear hd hsz2 hjX hmk hnx hd3 hks hrs hl5 hlb k1 k2 hnn;generalize hnv:(if ry.isNil=true then(-1:Int) else((j+1+ky.size:Nat):Int))=nv at*;have HNV:=hide hnv;clear hnv;go_wp2_with (go_at_call 35;refine HC.out.mono ?_;rintro e w5 ⟨rfl,hB5,hW5⟩;have HB5:=hide hB5;have HW5:=hide (hwf3.out.trans hW5);have n5:=HN5.out w5 HW5.out;obtain⟨-, -, -,o4,o5, -, -, -⟩:=HALL.out w5 HW5.out;clear hB5 hW5);exact⟨⟨ry,j+1+ky.size,_,rest2,by rw[HNV.out],hide HD3.out,HW5,HB5,hide (by rw[←HL5.out])⟩,HME.out⟩
end Go.Proofs.YtnlacmnoocigiaaGreatDoor
