/- tree: links. -/
import Derived.Test.YtnlacmnoocigiaaGreatDoorTkTrlA
namespace Go.Proofs.YtnlacmnoocigiaaGreatDoor
open Go.RowKit Go.Lib
attribute [local go_sem ↓] Go.wp_at_zero Go.wp_at_succ
def lenV :Value→Nat
 |.slice _ n _=>n
 |_=>0
def zqh (R:Option LkM)(w:World)(n:Nat)(e:Ending)(w':World):Prop:=match R with
 |none=>e=.returned (.tuple #[.slice none 0 0,.bool false])∧Fr (fun _=>False) w w'
 |some b=>∃g,e=.returned (.tuple #[.slice (some ⟨g,0,none⟩) n n,.bool true])∧Own nodeC w' 45 (.slice (some ⟨g,0,none⟩) n n) (some g) (b.pl.map toV)∧w.heap.size≤g∧Fr (fun _=>False) w w'
set_option maxRecDepth 100000 in
set_option maxHeartbeats 8000000 in
theorem zqi (w:World)(A:Option Addr)(n c:Nat)(X:List NodeX)(S:Nat→Prop)(ha:NodesRd w S (.slice A n c) X)(hS:∀k,S k→k<w.heap.size)(h0:0<n)(hn:n≤4096):
 Calls Tryz.prog 30 #[.agg #[.slice A n c]] w (zqh (z41 lk0 (X.map (·.v.parent))) w n):=by
 obtain⟨hla,hm63⟩:=ha.rd.lenT;rw[List.length_map] at hla;obtain⟨cl,hml,hol⟩:=zk8 (P:=Tryz.prog) zes zV zp2 n (by omega) (by omega);obtain⟨ct,hmt,hot⟩:=zk8 (P:=Tryz.prog) z88 (0:Int) zt6 n (by omega) (by omega);have HOL:=hide (hol h0);have HOT:=hide (hot h0);obtain⟨R,hR⟩:∃R,z41 lk0 (X.map (·.v.parent))=R:=⟨_,rfl⟩;rw[hR];have HR:=hide hR;have HLA:=hide hla;have HA:=hide ha;have HS:=hide hS;clear hol hot hR hla ha hS;go_enter Tryz.func30,Tryz.ntmps30;go_wp2_with fail;have HI:=hide (show LkW w ((((w.alloc (.cells #[.slice A n c] 31)).alloc (.cells cl 45)).alloc (.cells ct 3)).alloc (.cells #[] 3)) (w.heap.size+1) (w.heap.size+1+1) n (.slice (some ⟨w.heap.size+1+1+1,0,none⟩) 0 0) none lk0 [] from zp5 w _ cl ct _ n HOL.out HOT.out);generalize hW0:((((w.alloc (.cells #[.slice A n c] 31)).alloc (.cells cl 45)).alloc (.cells ct 3)).alloc (.cells #[] 3))=W0 at*;have HG:=hide (show w.heap.size≤w.heap.size+1∧w.heap.size≤w.heap.size+1+1 from by omega);clear hW0 hml hmt HOL HOT;generalize hg:w.heap.size+1=g at*;generalize ht:g+1=t at*;clear hg ht;go_loopw [6,22] (fun ov iv wr=>∃(k ol:Nat) (b:LkM) (B:Option Addr) (d:Nat) (oo:Option Nat),iv=.int .i64 k∧k≤n∧ov=.slice B ol d∧Hid (LkW w wr g t n (.slice B ol d) oo b b.opn)∧Hid (z41 b ((X.map (·.v.parent)).drop k)=R∧WfL b∧b.pl.length=k)) (fun _ iv _=>n - (Go.RowKit.intOf iv).toNat)
 case atStart=>exact⟨0,_,lk0,_,_,none,rfl,Nat.zero_le _,rfl,HI,hide ⟨by rw[List.drop_zero];exact HR.out,WfL.init,rfl⟩⟩
 case round=>
  obtain⟨k,ol,b,B,d,oo,rfl,hk,rfl,hL,hB⟩:=hrel;by_cases hlt:k<n
  · have hki:(k:Int)<n:=by omega
    have hkX:k<X.length:=by rw[HLA.out];exact hlt
    have HAW:=HA.out.fr hL.out.fr (fun k hk=>⟨HS.out k hk,fun h=>h⟩);obtain⟨g1,off,cp,hv, -, -,hg,hc⟩:=HAW.rd.at_ (i:=k) (by simpa using hkX);simp only[Value.slice.injEq] at hv;obtain⟨rfl, -,rfl⟩:=hv;have q0:=hc 0 (by decide);have q1:=hc 1 (by decide);have q2:=hc 2 (by decide);have q3:=hc 3 (by decide);have q4:=hc 4 (by decide);have q5:=hc 5 (by decide);have q6:=hc 6 (by decide);rw[List.getElem_map] at q0 q1 q2 q3 q4 q5 q6;have hps:(X.map (·.v.parent)).drop k=X[k].v.parent::(X.map (·.v.parent)).drop (k+1):=by rw[List.drop_eq_getElem_cons (by rw[List.length_map];exact hkX),List.getElem_map]
    have hrun:=hB.out.1;rw[hps,z41] at hrun;have hWF:=hide hB.out.2;generalize X[k]=x at*;obtain⟨⟨xn,xA,xm,xc,xt,xp,xf,xe,xa⟩,xo,xs⟩:=x;simp only[nodeC,Nat.add_zero,List.getElem?_cons_zero,List.getElem?_cons_succ,←Nat.add_assoc] at q0 q1 q2 q3 q4 q5 q6 hrun;have hrun2:=hide hrun;clear hc hg hkX HAW hps hrun hB;go_wp2_with fail;have hxb:=heap_alloc_new wr (.cells #[.string xn,.slice xA xm xc,.string xt,.int .i64 xp,.int .i64 xf,.int .i64 xe,.int .i64 xa] 45);have HXB:=hide (fun(W:World) (f:Fr (fun _=>False) (wr.alloc (.cells #[.string xn,.slice xA xm xc,.string xt,.int .i64 xp,.int .i64 xf,.int .i64 xe,.int .i64 xa] 45)) W)=>show W.cell? ⟨wr.heap.size,3,none⟩=some (.int .i64 xp) from by rw[f.cell (by simp) (fun h=>h),cell_of_row _ _ _ _ _ _ hxb];rfl);have HL1:=hide (hL.out.same (Fr.alloc (Fr.refl (fun _=>False) wr) (.cells #[.string xn,.slice xA xm xc,.string xt,.int .i64 xp,.int .i64 xf,.int .i64 xe,.int .i64 xa] 45)));have HQN:=hide (show w.heap.size≤wr.heap.size from hL.out.fr.size);have HQG:=hide (show ¬wr.heap.size=g∧¬wr.heap.size=t from by obtain⟨a,b⟩:=hL.out.qg;omega);generalize (wr.alloc (.cells #[.string xn,.slice xA xm xc,.string xt,.int .i64 xp,.int .i64 xf,.int .i64 xe,.int .i64 xa] 45))=W1 at*;generalize wr.heap.size=q at*;have HO:=hide (show ∀t∈b.opn,t<k from by have:=hWF.out;exact fun t ht=>by have h1:=this.1.o t ht;omega);have HOL:=hide (show ol=b.opn.length from by obtain⟨A',c',hv, -, -⟩:=HL1.out.op.form;simp only[Value.slice.injEq] at hv;rw[hv.2.1];simp);clear hxb q0 q1 q2 q3 q4 q5 q6;go_loopw [6] (fun ov wr2=>∃(tl:Nat) (T:List Nat) (B:Option Addr) (d:Nat) (oo:Option Nat),ov=.slice B tl d∧Hid (tl=T.length)∧Hid (LkW w wr2 g t n (.slice B tl d) oo b T)∧Hid (popO xp T=popO xp b.opn∧(∀t∈T,t<k)∧T.length≤64)∧Hid (Fr (fun _=>False) W1 wr2)) (fun ov _=>lenV ov)
    case atStart=>exact⟨_,b.opn,B,d,oo,rfl,HOL,HL1,hide ⟨rfl,HO.out,hWF.out.1.d⟩,hide (Fr.refl _ _)⟩
    case round=>
     clear HL1;obtain⟨tl,T,B2,d2,o2,rfl,htl,hL2,hT,hF⟩:=hrel;have z3:=HXB.out _ hF.out;have hWFo:=hWF.out
     cases T with
     |nil=>
      have htl0:=htl.out;simp only[List.length_nil] at htl0;subst htl0;have hpop:popO xp b.opn=[]:=hT.out.1.symm.trans rfl;by_cases hk0:k=0
      · subst hk0;have hbpl:b.pl=[]:=List.eq_nil_of_length_eq_zero hWFo.2;have hlast:b.last=[]:=List.eq_nil_of_length_eq_zero (hWFo.1.len.trans hWFo.2);by_cases hxp:xp= -1
        · subst hxp
          have hstep:z2i b (-1)=some (z2p b (-1)):=by
           unfold z2i;rw[if_neg];unfold zcp;rw[hpop,hbpl];rintro(h|h|h)
           · exact h ⟨fun _=>rfl,fun _=>rfl⟩
           · exact h.2 rfl
           · cases h
          have hrun3:=hrun2.out;rw[hstep] at hrun3;have HRUN:=hide (And.intro hrun3 (hWFo.1.step hstep));have HNEW:=hide (show z2p b (-1)=⟨[(-1, -1, -1)],[-1],[0]⟩ from by unfold z2p;rw[hpop,hbpl];rfl);clear hrun2 hrun3 hpop hstep;go_wp2_with fail;go_quiet (fail);have HLV:=hide (hL2.out.same (Fr.drewN (Fr.refl (fun _=>False) wr) nq));have ZV:=hide (show (wr.drewN nq).cell? ⟨q,3,none⟩=some (.int .i64 (-1)) from z3);clear z3 hL2 hF;generalize wr.drewN nq=V at*;have hst:=HLV.out.store (by omega) hlt (-1);have hp:=HLV.out.put (by omega) hWFo.1.len (-1);rw[hWFo.2,hbpl,hlast] at hp;have hu8:=HLV.out.last0 (by rw[hWFo.1.len];omega) hlt (by rw[hWFo.1.len];omega);obtain⟨hqg,hqt⟩:=HLV.out.qg;obtain⟨fz1,fz2⟩:=HLV.out.frz;have fV1:=z63 V g (nodeC.cells (toV (-1, -1, -1))) (0*7);have hz1:=(fV1.cell (p:=⟨t,0,none⟩) hqt (fun e=>HLV.out.gt e.symm)).trans hu8;have hf1:∀i,(V.setCells g (0*7) (nodeC.cells (toV (-1, -1, -1)))).frozen? ⟨t,i,none⟩=false:=fun i=>(fV1.frozen (p:=⟨t,i,none⟩) hqt (fun e=>HLV.out.gt e.symm)).trans (fz2 i);unfold placeW at hp;generalize V.setCells g (0*7) (nodeC.cells (toV (-1, -1, -1)))=V1 at*;have HP:=hide hp;rw[Nat.zero_mul] at hst;have HST:=hide hst;have z3:=ZV.out;clear hst hu8 fz1 fz2 fV1 hp ZV HLV hqg hqt
          go_wp2_with (first
           |(refine z3z rfl rfl (by rfl) (by rfl) HST.out ?_)
           |(at_builtin;refine z0d rfl rfl z88 (by rfl) (by rfl) (HP.out.op.fr (Fr.alloc (Fr.refl (fun _=>False) _) _) (fun _ _ h=>h)) (zk9 V1 _ (by simp) 0) (by decide) ?_;intro B3 d3 w3 o3 m3 g3 n3;have M3:=hide (HP.out.push (Fr.alloc (Fr.refl (fun _=>False) _) _) m3 g3 n3);clear m3 g3 n3))
          first
           |exact⟨⟨0+1,1,z2p b (-1),B3,d3,o3,by go_num,by omega,rfl,hide (M3.out.of (by rw[HNEW.out];rfl) (by rw[HNEW.out];rfl) (by rw[HNEW.out])),hide ⟨HRUN.out.1,HRUN.out.2.1,by rw[HRUN.out.2.2,hWF.out.2]⟩⟩,by simp[Go.RowKit.intOf];omega⟩
           |(go_roundw
             case rel=>exact⟨0+1,1,z2p b (-1),B3,d3,o3,by go_num,by omega,rfl,hide (M3.out.of (by rw[HNEW.out];rfl) (by rw[HNEW.out];rfl) (by rw[HNEW.out])),hide ⟨HRUN.out.1,HRUN.out.2.1,by rw[HRUN.out.2.2,hWF.out.2]⟩⟩
             case measure=>simp[Go.RowKit.intOf];omega)
        · have hstep:z2i b xp=none:=by unfold z2i;rw[if_pos];exact .inr (.inl ⟨hbpl,hxp⟩)
          have hrun3:=hrun2.out;rw[hstep] at hrun3;have hrun3:none=R:=hrun3;subst hrun3;clear hrun2 hpop hstep;go_wp2_with fail;go_quiet (fail);have ZV:=hide (show (wr.drewN nq).cell? ⟨q,3,none⟩=some (.int .i64 xp) from z3);have FV:=hide (hL2.out.same (Fr.drewN (Fr.refl (fun _=>False) wr) nq)).fr;clear z3 hL2 hF;generalize wr.drewN nq=V at*;have z3:=ZV.out;go_wp2_with fail;go_returns;exact⟨rfl,FV.out⟩
      · have hstep:z2i b xp=none:=by unfold z2i;rw[if_pos];unfold zcp;rw[hpop];refine .inl (fun h=>hk0 ?_);rw[←hWFo.2,h.1 rfl];rfl
        have hrun3:=hrun2.out;rw[hstep] at hrun3;have hrun3:none=R:=hrun3;subst hrun3;have hki2:¬(k:Int)=0:=by omega
        clear hrun2 hpop hstep;go_wp2_with fail;go_quiet (fail);have ZV:=hide (show (wr.drewN nq).cell? ⟨q,3,none⟩=some (.int .i64 xp) from z3);have FV:=hide (hL2.out.same (Fr.drewN (Fr.refl (fun _=>False) wr) nq)).fr;clear z3 hL2 hF;generalize wr.drewN nq=V at*;have z3:=ZV.out;go_wp2_with fail;go_returns;exact⟨rfl,FV.out⟩
     |cons s r=>
      have htl0:=htl.out;rw[List.length_cons] at htl0;obtain⟨j,hj⟩:∃j,j=r.length:=⟨_,rfl⟩;rw[←hj] at htl0;obtain⟨go,offo,rfl,hco⟩:=hL2.out.top;obtain⟨BX,o3,hL3,hsl⟩:=hL2.out.pop;rw[←hj] at hco hsl;have htm:tl≤9223372036854775807:=by obtain⟨A',c',hv,h1,h2⟩:=hL2.out.op.form;simp only[Value.slice.injEq] at hv;unfold maxLen at h2;omega
      have e1:IntKind.i64.wrap ((tl:Int) - 1)=(j:Int):=by rw[IntWalk.i64_in _ (by omega)];omega
      have b1:(j:Int)<tl:=by omega
      have b2:(0:Int)≤j:=by omega
      have b3:(0:Int)<tl:=by omega
      have hsk:s<k:=hT.out.2.1 s (by simp);have c3:0<tl:=by omega
      by_cases hsx:(s:Int)=xp
      · subst hsx;have hpop:popO (s:Int) b.opn=s::r:=by rw[←hT.out.1,popO,if_pos rfl]
        have hbpl:b.pl≠[]:=fun e=>by have:=hWFo.2;rw[e] at this;simp at this;omega
        by_cases h64:tl=64
        · have hstep:z2i b s=none:=by unfold z2i;rw[if_pos];unfold zcp;rw[hpop];exact .inr (.inr (by rw[List.length_cons];omega))
          have hrun3:=hrun2.out;rw[hstep] at hrun3;have hrun3:none=R:=hrun3;subst hrun3;have d4:((tl:Int)==64)=true:=by rw[beq_iff_eq];omega
          have d5:((tl:Int)==0)=false:=by rw[beq_eq_false_iff_ne];omega
          have H64:=hide h64;clear h64;have d6:((k:Int)==0)=false:=by rw[beq_eq_false_iff_ne];omega
          have b6:¬(k:Int)=0:=by omega
          have c6:¬k=0:=by omega
          clear hrun2 hpop hstep hL3 hsl htl0 hj;go_wp2_with fail;go_quiet (fail);have ZV:=hide (show (wr.drewN nq).cell? ⟨q,3,none⟩=some (.int .i64 (s:Int)) from z3);have FV:=hide (hL2.out.same (Fr.drewN (Fr.refl (fun _=>False) wr) nq)).fr;clear z3 hL2 hF hco;generalize wr.drewN nq=V at*;have z3:=ZV.out;go_wp2_with fail;go_returns;exact⟨rfl,FV.out⟩
        · have hstep:z2i b s=some (z2p b s):=by
           unfold z2i;rw[if_neg];unfold zcp;rw[hpop];rintro(h|h|h)
           · exact h ⟨fun e=>(by cases e),fun e=>absurd e hbpl⟩
           · exact hbpl h.1
           · rw[List.length_cons] at h;omega
          have hrun3:=hrun2.out;rw[hstep] at hrun3;have HRUN:=hide (And.intro hrun3 (hWFo.1.step hstep));have HLEN:=hide (show ((s::r).reverse.map Int.ofNat).length+[(k:Int)].length=tl+1 from by simp;omega);have HT64:=hide hT.out.2.2;have HNN:=hide hbpl;have b4:¬(tl:Int)=64:=by omega
          have b5:¬(tl:Int)=0:=by omega
          have b6:¬(k:Int)=0:=by omega
          have b7:(0:Int)<k:=by omega
          have d4:((tl:Int)==64)=false:=by rw[beq_eq_false_iff_ne];omega
          have d5:((tl:Int)==0)=false:=by rw[beq_eq_false_iff_ne];omega
          have d6:((k:Int)==0)=false:=by rw[beq_eq_false_iff_ne];omega
          have c4:¬tl=64:=by omega
          have c5:¬tl=0:=by omega
          have c6:¬k=0:=by omega
          have c7:0<k:=by omega
          have HHJ:=hide hj;have HPOP:=hide hpop;have QG:=hide (show ¬q=g∧¬q=t from HQG.out);have HHT:=hide htl0;clear hrun2 hrun3 hpop hstep hbpl hL3 hsl hj htl0;go_wp2_with fail;go_quiet (fail);have HLV:=hide (hL2.out.same (Fr.drewN (Fr.refl (fun _=>False) wr) nq));have ZV:=hide (show (wr.drewN nq).cell? ⟨q,3,none⟩=some (.int .i64 (s:Int)) from z3);clear z3 hL2 hF hco;generalize wr.drewN nq=V at*;have hlk:=hWFo.1.len;have hst:=HLV.out.store (by omega) hlt s;have hp:=HLV.out.put (by omega) hlk s;rw[hWFo.2] at hp;have hu8:=HLV.out.last0 (by omega) hlt (by omega);obtain⟨hqg,hqt⟩:=HLV.out.qg;obtain⟨fz1,fz2⟩:=HLV.out.frz;have fV1:=z63 V g (nodeC.cells (toV (s, -1, -1))) (k*7);have hz1:=(fV1.cell (p:=⟨t,k,none⟩) hqt (fun e=>HLV.out.gt e.symm)).trans hu8;have hf1:∀i,(V.setCells g (k*7) (nodeC.cells (toV (s, -1, -1)))).frozen? ⟨t,i,none⟩=false:=fun i=>(fV1.frozen (p:=⟨t,i,none⟩) hqt (fun e=>HLV.out.gt e.symm)).trans (fz2 i);have hz2:=(fV1.cell (p:=⟨q,3,none⟩) (World.block_lt_of_cell? V ⟨q,3,none⟩ ZV.out) (fun e=>QG.out.1 e)).trans ZV.out;have hsl:s<b.last.length:=by omega
          have hz3:=(fV1.cell (p:=⟨t,s,none⟩) hqt (fun e=>HLV.out.gt e.symm)).trans (HLV.out.last_at (by omega) hsl);have hla:z79 b s=b.last[s]:=by unfold z79;rw[Int.toNat_natCast,List.getElem?_eq_getElem hsl];rfl
          have hlor:=zqc hWFo.1 s;rw[hla] at hlor;have HPV:=hide hp;have hfz:∀i,(V.setCells g (k*7) (nodeC.cells (toV (s, -1, -1)))).frozen? ⟨g,i,none⟩=false:=fun i=>by have h1:=HPV.out.frz.1 i;unfold placeW at h1;rw[show ∀(W:World) v,(W.setCell ⟨t,k,none⟩ v).frozen? ⟨g,i,none⟩=W.frozen? ⟨g,i,none⟩ from fun W v=>by simp] at h1;exact h1
          have hcat:∀s2,s2<k→∃a b,(V.setCells g (k*7) (nodeC.cells (toV (s, -1, -1)))).cell? ⟨g,s2*7+4,none⟩=some (.int .i64 a)∧(V.setCells g (k*7) (nodeC.cells (toV (s, -1, -1)))).cell? ⟨g,s2*7+5,none⟩=some (.int .i64 b):=fun s2 hs2=>by
           obtain⟨h1,h2⟩:=HPV.out.cell_at (s:=s2) (by simp;omega) (by simp;omega);have hne:g≠t:=HLV.out.gt;have f2:=Fr.set_b (V.setCells g (k*7) (nodeC.cells (toV (s, -1, -1)))) t k (.int .i64 (-1));have hg1:g<(V.setCells g (k*7) (nodeC.cells (toV (s, -1, -1)))).heap.size:=by rw[z8v];exact hqg
           exact⟨_,_,(f2.cell (p:=⟨g,s2*7+4,none⟩) hg1 hne).symm.trans h1,(f2.cell (p:=⟨g,s2*7+5,none⟩) hg1 hne).symm.trans h2⟩
          have hgt:¬g=t:=HLV.out.gt;have htg:¬t=g:=fun e=>hgt e.symm;have hqg2:¬q=g:=QG.out.1;have hqt2:¬q=t:=QG.out.2;have hgq2:¬g=q:=fun e=>hqg2 e.symm;have htq2:¬t=q:=fun e=>hqt2 e.symm;have hsk2:¬s=k:=by omega
          have hks2:¬k=s:=by omega
          have hV1s:=z8v V g (nodeC.cells (toV (s, -1, -1))) (k*7);unfold placeW at hp;generalize V.setCells g (k*7) (nodeC.cells (toV (s, -1, -1)))=V1 at*;have HP:=hide hp;have HST:=hide hst;clear hst;have HVS:=hide hV1s;obtain⟨p4,p5,hc4, -⟩:=hcat s hsk;have HB1:=hide hWFo;have z3:=ZV.out;have HNW:=hide (show (z2p b s).opn=k::s::r from by unfold z2p;rw[HPOP.out,hWFo.2]);clear hu8 fz1 fz2 fV1 hp hV1s HPV ZV HLV hqg hqt;generalize hlaa:b.last[s]=la at*;have HLA2:=hide hla;have HOR:=hide hlor;have HKS:=hide (show s<(b.pl++[((s:Int),(-1:Int),(-1:Int))]).length∧(b.pl++[((s:Int),(-1:Int),(-1:Int))]).length≤n∧s<(b.last++[-1]).length∧(b.last++[-1]).length≤n from by simp only[List.length_append,List.length_cons,List.length_nil];omega);have HBL:=hide (show (((s::r).reverse.map Int.ofNat).length+[(k:Int)].length)*8≤140737488355328 from by have h1:=HLEN.out;have h2:=HT64.out;simp only[List.length_map,List.length_reverse,List.length_cons,List.length_nil] at*;omega);by_cases hl1:la= -1
          · subst hl1;have HP2:=hide ((HP.out.first HKS.out.1 HKS.out.2.1 (k:Int)).lastS HKS.out.2.2.1 HKS.out.2.2.2 (k:Int))
            have HEQ:=hide (show (z2p b s).pl=(b.pl++[((s:Int),(-1:Int),(-1:Int))]).modify s (fstP k)∧(z2p b s).last=(b.last++[-1]).set s k from by unfold z2p lnkP;simp only;rw[if_neg HNN.out,if_neg HNN.out,HLA2.out,if_pos rfl,HB1.out.2,Int.toNat_natCast];exact⟨rfl,rfl⟩);clear hcat hla hlor hlk
            go_wp2_with (first
             |(refine z3z rfl rfl (by rfl) (by rfl) HST.out ?_)
             |(at_builtin;refine z0d rfl rfl z88 (by rfl) (by rfl) (HP2.out.op.fr (Fr.alloc (Fr.refl (fun _=>False) _) _) (fun _ _ h=>h)) (zk9 V1 _ (by simp) k) HBL.out ?_;intro B3 d3 w3 o3 m3 g3 n3;rw[HLEN.out] at m3⊢;have M3:=hide (HP2.out.push (Fr.alloc (Fr.refl (fun _=>False) _) _) m3 g3 n3);clear m3 g3 n3))
            first
             |exact⟨⟨k+1,tl+1,z2p b s,B3,d3,o3,by go_num,by omega,rfl,hide (M3.out.of HEQ.out.1 HEQ.out.2 HNW.out),hide ⟨HRUN.out.1,HRUN.out.2.1,by rw[HRUN.out.2.2,HB1.out.2]⟩⟩,by simp[Go.RowKit.intOf];omega⟩
             |(go_roundw
               case rel=>exact⟨k+1,tl+1,z2p b s,B3,d3,o3,by go_num,by omega,rfl,hide (M3.out.of HEQ.out.1 HEQ.out.2 HNW.out),hide ⟨HRUN.out.1,HRUN.out.2.1,by rw[HRUN.out.2.2,HB1.out.2]⟩⟩
               case measure=>simp[Go.RowKit.intOf];omega)
          · obtain⟨m,rfl⟩:∃m:Nat,la=(m:Int):=⟨la.toNat,by have:=hlor.resolve_left hl1;omega⟩;have hmk:m<k:=by have:=hlor.resolve_left hl1;omega
            obtain⟨m4,m5, -,hc5⟩:=hcat m hmk;have hm1:((m:Int)== -1)=false:=by rw[beq_eq_false_iff_ne];omega
            have hm2:(m:Int)<n:=by omega
            have HP2:=hide ((HP.out.next (s:=m) (by have:=HKS.out.1;simp only[List.length_append,List.length_cons,List.length_nil] at*;omega) HKS.out.2.1 (k:Int)).lastS HKS.out.2.2.1 HKS.out.2.2.2 (k:Int));have HEQ:=hide (show (z2p b s).pl=(b.pl++[((s:Int),(-1:Int),(-1:Int))]).modify m (nxtP k)∧(z2p b s).last=(b.last++[-1]).set s k from by unfold z2p lnkP;simp only;rw[if_neg HNN.out,if_neg HNN.out,HLA2.out,if_neg hl1,HB1.out.2,Int.toNat_natCast,Int.toNat_natCast];exact⟨rfl,rfl⟩);clear hcat hla hlor hlk hc4
            go_wp2_with (first
             |(refine z3z rfl rfl (by rfl) (by rfl) HST.out ?_)
             |(at_builtin;refine z0d rfl rfl z88 (by rfl) (by rfl) (HP2.out.op.fr (Fr.alloc (Fr.refl (fun _=>False) _) _) (fun _ _ h=>h)) (zk9 V1 _ (by simp) k) HBL.out ?_;intro B3 d3 w3 o3 m3 g3 n3;rw[HLEN.out] at m3⊢;have M3:=hide (HP2.out.push (Fr.alloc (Fr.refl (fun _=>False) _) _) m3 g3 n3);clear m3 g3 n3))
            first
             |exact⟨⟨k+1,tl+1,z2p b s,B3,d3,o3,by go_num,by omega,rfl,hide (M3.out.of HEQ.out.1 HEQ.out.2 HNW.out),hide ⟨HRUN.out.1,HRUN.out.2.1,by rw[HRUN.out.2.2,HB1.out.2]⟩⟩,by simp[Go.RowKit.intOf];omega⟩
             |(go_roundw
               case rel=>exact⟨k+1,tl+1,z2p b s,B3,d3,o3,by go_num,by omega,rfl,hide (M3.out.of HEQ.out.1 HEQ.out.2 HNW.out),hide ⟨HRUN.out.1,HRUN.out.2.1,by rw[HRUN.out.2.2,HB1.out.2]⟩⟩
               case measure=>simp[Go.RowKit.intOf];omega)
      · have hsx1:((s:Int)==xp)=false:=by rw[beq_eq_false_iff_ne];exact hsx
        have HHT:=hide htl0;have HHJ:=hide hj;clear htl0 hj;go_wp2_with fail;go_quiet (fail);go_wp2_with fail;have HN3:=hide (show LkW w (wr.drewN nq) g t n (.slice BX j d2) o3 b r from by have:=hL3.same (Fr.drewN (Fr.refl (fun _=>False) wr) nq);rw[←HHJ.out] at this;exact this);have HT3:=hide (show popO xp r=popO xp b.opn∧(∀t∈r,t<k)∧r.length≤64 from by have h1:=hT.out;refine⟨?_,fun t ht=>h1.2.1 t (by simp[ht]),by have:=h1.2.2;rw[List.length_cons] at this;omega⟩;rw[←h1.1,popO,if_neg hsx])
        first
         |exact⟨⟨j,r,BX,d2,o3,rfl,HHJ,HN3,HT3,hide (Fr.drewN hF.out _)⟩,by simp[lenV];omega⟩
         |(go_roundw
           case rel=>exact⟨j,r,BX,d2,o3,rfl,HHJ,HN3,HT3,hide (Fr.drewN hF.out _)⟩
           case measure=>simp[lenV];omega)
  · have hkn:k=n:=by omega
    subst hkn;have hki:¬(k:Int)<k:=by omega
    have hfin:=hB.out.1;rw[List.drop_of_length_le (by rw[List.length_map,HLA.out];exact Nat.le_refl _)] at hfin;have hfin:some b=R:=hfin;subst hfin;go_wp2_with fail;go_returns;refine⟨g,rfl, ?_,hL.out.gn,hL.out.fr⟩;have:=hL.out.pl;rw[zqd hB.out.2.2] at this;exact this
end Go.Proofs.YtnlacmnoocigiaaGreatDoor
