/- tree: a node more, where one may be: a first kid. Printed by wip/gen_treh.py. -/
import Derived.Test.YtnlacmnoocigiaaGreatDoorTreGt
import Derived.Deep.Cut
import Derived.Test.YtnlacmnoocigiaaGreatDoorTkTrlA
namespace Go.Proofs.YtnlacmnoocigiaaGreatDoor
open Go.RowKit Go.Lib
attribute [local go_sem ↓] Go.wp_at_zero Go.wp_at_succ
attribute [local go_sem ↓] z5p
set_option maxRecDepth 100000 in
set_option maxHeartbeats 16000000 in
theorem ziv (w:World)(base b:Nat)(st:BldM)(x:Tok)(A:Option Addr)(c:Nat)(S:Nat→Prop)(h:OpS w base b st x A c S)(p:Nat)(hi:st.inn=(p:Int))(hlast:z2a st= -1)(st':BldM)(hr:z0n st x=.inl st'):
 Calls Tryz.prog 24 #[.pointer (some ⟨b,0,none⟩),tokA x A (z01 x).length c] w (z10 w base b (.inl st')):=by
 unfold tokA;have fa:Fr (fun _=>False) w (w.alloc (.cells #[.int .u8 (x.kind:Int),.string (bs x.name),.slice A (z01 x).length c,.string (bs x.text),.int .i64 (x.at_:Int)] 76)):=Fr.alloc (Fr.refl _ _) _;have hbx:=heap_alloc_new w (.cells #[.int .u8 (x.kind:Int),.string (bs x.name),.slice A (z01 x).length c,.string (bs x.text),.int .i64 (x.at_:Int)] 76);have HCL:=hide (z90 S _ (z01 x) _ (h.rd.fr fa (fun k hk=>⟨h.hS k hk,fun h=>h⟩)) (fun k hk=>Nat.lt_of_lt_of_le (h.hS k hk) fa.size) h.hl);have HL:=hide h.hl
 have HCALL:=hide (show ∀(W:World) (A1:Option Addr) (c1:Nat) (o1:Option Nat),Own pairC W 47 (.slice A1 (z01 x).length c1) o1 (z01 x)→Fr (fun _=>False) (w.alloc (.cells #[.int .u8 (x.kind:Int),.string (bs x.name),.slice A (z01 x).length c,.string (bs x.text),.int .i64 (x.at_:Int)] 76)) W→(∀k,o1=some k→(w.alloc (.cells #[.int .u8 (x.kind:Int),.string (bs x.name),.slice A (z01 x).length c,.string (bs x.text),.int .i64 (x.at_:Int)] 76)).heap.size≤k)→
  Calls Tryz.prog 49 #[.slice A1 (z01 x).length c1,.func (.func 50) #[] #[]] W fun e w2=>
  e=.returned (.tuple #[])∧Fr (fun _=>False) (w.alloc (.cells #[.int .u8 (x.kind:Int),.string (bs x.name),.slice A (z01 x).length c,.string (bs x.text),.int .i64 (x.at_:Int)] 76)) w2∧(∃L2,Own pairC w2 47 (.slice A1 (z01 x).length c1) o1 L2∧adjA L2=decide (dupA (z01 x))∧(¬dupA (z01 x)→L2=z5f (z01 x))) from
  fun W A1 c1 o1 g1 g2 g3=>z91 g1 g2 g3 HL.out)
 obtain⟨nv,tv,lv,on,ot,ol,X,B,hX⟩:=h.hb;obtain⟨An,cn,hnv, -, -⟩:=B.nodes.form;obtain⟨At',ct,htv, -, -⟩:=B.texts.form;obtain⟨Al,cl,hlv, -, -⟩:=B.lasts.form;have hlen:X.length=st.nodes.length:=by rw[←hX,List.length_map]
 rw[List.length_map] at hnv;rw[h.iv.t,←hlen] at htv;rw[h.iv.l,←hlen] at hlv;subst hnv htv hlv;have hTn:=hide (show st.texts.length=X.length by rw[h.iv.t,hlen]);have hLn:=hide (show st.lasts.length=X.length by rw[h.iv.l,hlen]);have FA:=hide fa;have HF:=hide (fun(W:World) (f:Fr (fun _=>False) w W)=>(B.same f).facts);have HBB:=hide (fun(W:World) (f:Fr (fun _=>False) w W)=>(B.same f));have hn:=h.iv.n;have hd64:=h.iv.d;unfold z0n at hr;have hnA:¬((st.inn= -1∧st.nodes≠[])∨dupA (z01 x)):=fun g=>by rw[if_pos g] at hr;cases hr
 rw[if_neg hnA] at hr;have hnL:¬(st.nodes.length=4096∨st.deep=64):=fun g=>by rw[if_pos g] at hr;cases hr
 rw[if_neg hnL] at hr;have hdup:¬dupA (z01 x):=fun g=>hnA (.inr g);have l1:((X.length:Int)==4096)=false:=by rw[beq_eq_false_iff_ne];omega
 have l2:((st.deep:Int)==64)=false:=by rw[beq_eq_false_iff_ne];omega
 have hin:st.inn≠ -1:=by omega
 simp only[Sum.inl.injEq,if_neg hin,hi,if_neg (show ¬(p:Int)= -1 by omega),Int.toNat_natCast] at hr;obtain⟨p',hp',hpn,hpT,hpL,hd0, -⟩:=h.iv.open_ hin;obtain rfl:p'=p:=by omega
 have hi3:((p':Int)== -1)=false:=by rw[beq_eq_false_iff_ne];omega
 have hi4:¬(p':Int)= -1:=by omega
 have hpi:(p':Int)<(X.length:Int)+1:=by omega
 have hpX:p'<X.length:=by omega
 have hlastg:st.lasts[p']? =some (z2a st):=by unfold z2a;rw[hi,Int.toNat_natCast,List.getElem?_eq_getElem hpL];rfl
 rw[hlast] at hlastg hr;have HLG:=hide hlastg;have HPL:=hide hpL;clear hlastg hp' hpn hpT hpL hin hd0;have HD:=hide hdup
 have HOPT:=hide (show ∀w3 A1 c1 o1 L2,Fr (fun _=>False) (w.alloc (.cells #[.int .u8 (x.kind:Int),.string (bs x.name),.slice A (z01 x).length c,.string (bs x.text),.int .i64 (x.at_:Int)] 76)) w3→Own pairC w3 47 (.slice A1 (z01 x).length c1) o1 L2→(¬dupA (z01 x)→L2=z5f (z01 x))→(∀k,o1=some k→(w.alloc (.cells #[.int .u8 (x.kind:Int),.string (bs x.name),.slice A (z01 x).length c,.string (bs x.text),.int .i64 (x.at_:Int)] 76)).heap.size≤k)→OpT w w3 base b st x A1 c1 o1 (p':Int) from
  fun w3 A1 c1 o1 L2 g1 g2 g3 g4=>⟨fa.trans g1,by rw[←g3 HD.out];exact g2,fun k hk=>by have:=g4 k hk;simp at this;omega,
   (g1.cell (p:=⟨w.heap.size,1,none⟩) (by simp) (fun h=>h)).trans (by rw[cell_of_row _ _ _ _ _ _ hbx];rfl),
   (g1.cell (p:=⟨w.heap.size,4,none⟩) (by simp) (fun h=>h)).trans (by rw[cell_of_row _ _ _ _ _ _ hbx];rfl)⟩)
 have HX:=hide hX;have HR:=hide hr;clear hr hnA hnL hdup B hX hbx;have hXn:X.length≤4096:=by omega
 have HLEN:=hide hlen;clear hn hlen;go_enter Tryz.func24,Tryz.ntmps24
 go_wp2_with (first
  |(go_at_call 48;refine HCL.out.mono ?_;rintro e w1 ⟨A1,c1,o1,rfl,own1,f1,n1⟩)
  |(go_at_call 49;refine(HCALL.out _ _ _ _ own1 f1 n1).mono ?_;rintro e w2 ⟨rfl,f2,L2,ho2,ht2,hs2⟩;rw[decide_eq_false HD.out] at ht2;have HTW:=z3w _ _ _ _ L2 w2 ho2.rd ho2.lt;rw[ht2] at HTW;have HTW2:=hide HTW;have HS2:=hide hs2;clear HTW ht2 hs2;obtain⟨b0,b1,b2,b3,b4,bf⟩:=HF.out w2 (FA.out.trans f2);rw[hi] at b3)
  |(go_at_call 51;refine HTW2.out.mono ?_;rintro e w3 ⟨rfl,f3⟩;have O3:=hide (HOPT.out w3 A1 c1 o1 L2 (f2.trans f3) (ho2.fr f3 (fun _ _ h=>h)) HS2.out n1);obtain⟨d0,d1,d2,d3,d4,df⟩:=HF.out w3 O3.out.fr;rw[hi] at d3))
 clear own1 f1 b0 b1 b2 b3 b4 bf ho2;have HB3:=hide (HBB.out w3 O3.out.fr);have m1:=O3.out.nm;have m4:=O3.out.at_;have ltb:=HB3.out.lt;have ltx:w.heap.size<w3.heap.size:=by have:=f3.size;have:=f2.size;simp at this;omega
 have nbn:¬on=some b:=fun e=>(HB3.out.bn b e).2 rfl;have nxn:¬on=some w.heap.size:=fun e=>by have:=HBB.out w (Fr.refl _ _);have:=this.nodes.lt _ e;omega
 clear f2 f3 HTW2 HS2 n1 d1 d2 d4;obtain⟨v4,w4,o4,hrun0,hown,hfr4,hnew4⟩:=z0s (P:=Tryz.prog) (C:=nodeC) (ty:=29) zes (w3.drew.alloc (.cells #[.string (bs x.name),.slice A1 (z01 x).length c1,.string ⟨#[]⟩,.int .i64 (p':Int),.int .i64 (-1),.int .i64 (-1),.int .i64 (x.at_:Int)] 45)) (HB3.out.nodes.fr (Fr.alloc (Fr.drew (Fr.refl (fun _=>False) _)) _) (fun _ _ h=>h)) (zit w3.drew ⟨bs x.name,A1,(z01 x).length,c1,⟨#[]⟩,(p':Int), -1, -1,(x.at_:Int)⟩ 45) (by rw[List.length_map];simp;omega);obtain⟨A4,c4,hv4, -, -⟩:=hown.form;rw[List.length_append,List.length_map] at hv4;subst hv4;have hrun:(zgy #[29,29] 29 #[.slice An X.length cn,.slice (some ⟨w3.heap.size,0,none⟩) 1 1]).run Tryz.prog (w3.alloc (.cells #[.string (bs x.name),.slice A1 (z01 x).length c1,.string ⟨#[]⟩,.int .i64 (p':Int),.int .i64 (-1),.int .i64 (-1),.int .i64 (x.at_:Int)] 45)).drew=.ok (.slice A4 (X.length+1) c4) w4:=hrun0;have g4:=hide ((Fr.alloc (Fr.drew (Fr.refl (fun k=>on=some k) w3)) (.cells #[.string (bs x.name),.slice A1 (z01 x).length c1,.string ⟨#[]⟩,.int .i64 (p':Int),.int .i64 (-1),.int .i64 (-1),.int .i64 (x.at_:Int)] 45)).trans hfr4);have k0:=(g4.out.cell (p:=⟨b,0,none⟩) ltb nbn).trans d0;have kf:=(g4.out.frozen (p:=⟨b,0,none⟩) ltb nbn).trans (df 0);have HOW:=hide hown;have HNW:=hide hnew4;clear hrun0 hown hnew4 hfr4 df;go_region;have B5:=HB3.out.nodes_ (x:=z1n x A1 c1 o1 (p':Int)) g4.out HOW.out (fun k hk=>(HNW.out k hk).imp id (fun g=>by have:=g.1;simp at this;omega)) O3.out.ok (fun k hk=>by have h1:=O3.out.new k hk;have hBw:=HBB.out w (Fr.refl _ _);have hbw:=h.bw;exact⟨by omega,by have:=hBw.lt;omega,fun e=>by have:=hBw.nodes.lt k e;omega,fun e=>by have:=hBw.texts.lt k e;omega,fun e=>by have:=hBw.lasts.lt k e;omega⟩)
 have FW5:=hide (show Fr (fun k=>base≤k) w (w4.setCell ⟨b,0,none⟩ (.slice A4 (X.length+1) c4)) from
  ((O3.out.fr.mono (fun _ h=>h.elim)).trans (g4.out.mono (fun k hk=>(HB3.out.bn k hk).1))).setCell (p:=⟨b,0,none⟩) (.inl HB3.out.nb) _)
 clear k0 kf m1 m4 ltx nxn nbn ltb d0 d3 hrun;generalize (w4.setCell ⟨b,0,none⟩ (.slice A4 (X.length+1) c4))=W5 at*;obtain⟨e0,e1,e2,e3,e4,ef⟩:=B5.facts;rw[hi] at e3;have F1:=Fr.drew (Fr.alloc (Fr.refl (fun _=>False) W5) (.cells #[.string ⟨#[]⟩] 9));have F12:=Fr.drew (Fr.alloc (Fr.alloc (Fr.refl (fun _=>False) W5) (.cells #[.string ⟨#[]⟩] 9)) (.cells #[.int .i64 (-1)] 3));have F21:=Fr.drew (Fr.alloc (Fr.alloc (Fr.refl (fun _=>False) W5) (.cells #[.int .i64 (-1)] 3)) (.cells #[.string ⟨#[]⟩] 9));have c12a:(((W5.alloc (.cells #[.string ⟨#[]⟩] 9)).alloc (.cells #[.int .i64 (-1)] 3)).drew).heap[W5.heap.size]? =some (.cells #[.string ⟨#[]⟩] 9):=by show ((W5.alloc (.cells #[.string ⟨#[]⟩] 9)).alloc (.cells #[.int .i64 (-1)] 3)).heap[W5.heap.size]? =_;rw[Below.heap_alloc _ _ _ (by simp)];exact heap_alloc_new W5 _
 have c12b:(((W5.alloc (.cells #[.string ⟨#[]⟩] 9)).alloc (.cells #[.int .i64 (-1)] 3)).drew).heap[W5.heap.size+1]? =some (.cells #[.int .i64 (-1)] 3):=by rw[show W5.heap.size+1=(W5.alloc (.cells #[.string ⟨#[]⟩] 9)).heap.size from by simp];exact heap_alloc_new (W5.alloc (.cells #[.string ⟨#[]⟩] 9)) (.cells #[.int .i64 (-1)] 3)
 have c21a:(((W5.alloc (.cells #[.int .i64 (-1)] 3)).alloc (.cells #[.string ⟨#[]⟩] 9)).drew).heap[W5.heap.size]? =some (.cells #[.int .i64 (-1)] 3):=by show ((W5.alloc (.cells #[.int .i64 (-1)] 3)).alloc (.cells #[.string ⟨#[]⟩] 9)).heap[W5.heap.size]? =_;rw[Below.heap_alloc _ _ _ (by simp)];exact heap_alloc_new W5 _
 have c21b:(((W5.alloc (.cells #[.int .i64 (-1)] 3)).alloc (.cells #[.string ⟨#[]⟩] 9)).drew).heap[W5.heap.size+1]? =some (.cells #[.string ⟨#[]⟩] 9):=by rw[show W5.heap.size+1=(W5.alloc (.cells #[.int .i64 (-1)] 3)).heap.size from by simp];exact heap_alloc_new (W5.alloc (.cells #[.int .i64 (-1)] 3)) (.cells #[.string ⟨#[]⟩] 9)
 obtain⟨Aa1,ca1,wa1,ra1,ha1⟩:=z68 B5 hTn.out hXn F1 (heap_alloc_new W5 _);obtain⟨Ab1,cb1,wb1,rb1,hb1⟩:=z4b B5 hLn.out hXn F1 ha1 (Fr.alloc (Fr.refl _ _) (.cells #[.int .i64 (-1)] 3)) (heap_alloc_new wa1 _);obtain⟨Aa2,ca2,wa2,ra2,ha2⟩:=z68 B5 hTn.out hXn F12 c12a;obtain⟨Ab2,cb2,wb2,rb2,hb2⟩:=z4b B5 hLn.out hXn F12 ha2 (Fr.refl _ _) (z4h B5 ha2 (Nat.le_succ _) c12b);obtain⟨Aa5,ca5,wa5,ra5,ha5⟩:=z68 B5 hTn.out hXn F21 c21b;obtain⟨Ab5,cb5,wb5,rb5,hb5⟩:=z4b B5 hLn.out hXn F21 ha5 (Fr.refl _ _) (z4h B5 ha5 (Nat.le_refl _) c21a);obtain⟨xa1,ya1⟩:=z1q B5 F1 ha1;obtain⟨xb1,yb1,zb1,ub1,p1,q1,r1,s1⟩:=z4c B5 hb1;rw[hi] at zb1;obtain⟨xa2,ya2⟩:=z1q B5 F12 ha2;obtain⟨xb2,yb2,zb2,ub2,p2,q2,r2,s2⟩:=z4c B5 hb2;rw[hi] at zb2;obtain⟨xa5,ya5⟩:=z1q B5 F21 ha5;obtain⟨xb5,yb5,zb5,ub5,p5,q5,r5,s5⟩:=z4c B5 hb5;rw[hi] at zb5;have al1:=(Fr.cell (Fr.alloc (Fr.refl (fun _=>False) W5) (.cells #[.string ⟨#[]⟩] 9)) (p:=⟨b,1,none⟩) B5.lt (fun h=>h)).trans e1;have al2:=(Fr.cell (Fr.alloc (Fr.refl (fun _=>False) W5) (.cells #[.string ⟨#[]⟩] 9)) (p:=⟨b,2,none⟩) B5.lt (fun h=>h)).trans e2;have al3:=(Fr.cell (Fr.alloc (Fr.refl (fun _=>False) W5) (.cells #[.int .i64 (-1)] 3)) (p:=⟨b,1,none⟩) B5.lt (fun h=>h)).trans e1;have al4:=(Fr.cell (Fr.alloc (Fr.refl (fun _=>False) W5) (.cells #[.int .i64 (-1)] 3)) (p:=⟨b,2,none⟩) B5.lt (fun h=>h)).trans e2;have al5:=(Fr.cell (Fr.alloc (Fr.alloc (Fr.refl (fun _=>False) W5) (.cells #[.string ⟨#[]⟩] 9)) (.cells #[.int .i64 (-1)] 3)) (p:=⟨b,1,none⟩) B5.lt (fun h=>h)).trans e1;have al6:=(Fr.cell (Fr.alloc (Fr.alloc (Fr.refl (fun _=>False) W5) (.cells #[.string ⟨#[]⟩] 9)) (.cells #[.int .i64 (-1)] 3)) (p:=⟨b,2,none⟩) B5.lt (fun h=>h)).trans e2;have al7:=(Fr.cell (Fr.alloc (Fr.alloc (Fr.refl (fun _=>False) W5) (.cells #[.int .i64 (-1)] 3)) (.cells #[.string ⟨#[]⟩] 9)) (p:=⟨b,1,none⟩) B5.lt (fun h=>h)).trans e1;have al8:=(Fr.cell (Fr.alloc (Fr.alloc (Fr.refl (fun _=>False) W5) (.cells #[.int .i64 (-1)] 3)) (.cells #[.string ⟨#[]⟩] 9)) (p:=⟨b,2,none⟩) B5.lt (fun h=>h)).trans e2;have ltwa1:b<wa1.heap.size:=World.block_lt_of_cell? wa1 ⟨b,1,none⟩ xa1;have al9:=(Fr.cell (Fr.alloc (Fr.refl (fun _=>False) wa1) (.cells #[.int .i64 (-1)] 3)) (p:=⟨b,1,none⟩) ltwa1 (fun h=>h)).trans xa1;have al10:=(Fr.cell (Fr.alloc (Fr.refl (fun _=>False) wa1) (.cells #[.int .i64 (-1)] 3)) (p:=⟨b,2,none⟩) ltwa1 (fun h=>h)).trans ya1;have HB5:=hide B5;clear B5 F1 F12 F21 c12a c12b c21a c21b ef e4;go_wp2_with fail;go_cut [0] from 8 (fun a0 wx=>a0=.pointer (some ⟨b,0,none⟩)∧Hid (∃tv' lv' ot' ol',BldL wx base b (.slice A4 (X.length+1) c4) tv' lv' o4 ot' ol' (X++[z1n x A1 c1 o1 (p':Int)]) (st.texts++[⟨#[]⟩]) (st.lasts++[-1]) st.inn st.deep∧Fr (fun k=>base≤k) w wx))
 case first=>
  go_region
  · go_wp2_with fail
    go_meet
    case rel=>
     obtain⟨ot6,ol6,t6⟩:=hb1.out;exact⟨rfl,hide ⟨_,_,_,_,HB5.out.two_ t6,((FW5.out.trans (t6.fr.mono (fun k hk=>hk.elim (fun e=>(HB5.out.bt k e).1) (fun e=>(HB5.out.bl k e).1)))).setCell (p:=⟨b,1,none⟩) (.inl HB5.out.nb) _).setCell (p:=⟨b,2,none⟩) (.inl HB5.out.nb) _⟩⟩
  · go_wp2_with fail
    go_meet
    case rel=>
     obtain⟨ot6,ol6,t6⟩:=hb2.out;exact⟨rfl,hide ⟨_,_,_,_,HB5.out.two_ t6,((FW5.out.trans (t6.fr.mono (fun k hk=>hk.elim (fun e=>(HB5.out.bt k e).1) (fun e=>(HB5.out.bl k e).1)))).setCell (p:=⟨b,1,none⟩) (.inl HB5.out.nb) _).setCell (p:=⟨b,2,none⟩) (.inl HB5.out.nb) _⟩⟩
  · go_wp2_with fail
    go_meet
    case rel=>
     obtain⟨ot6,ol6,t6⟩:=hb5.out;exact⟨rfl,hide ⟨_,_,_,_,HB5.out.two_ t6,((FW5.out.trans (t6.fr.mono (fun k hk=>hk.elim (fun e=>(HB5.out.bt k e).1) (fun e=>(HB5.out.bl k e).1)))).setCell (p:=⟨b,1,none⟩) (.inl HB5.out.nb) _).setCell (p:=⟨b,2,none⟩) (.inl HB5.out.nb) _⟩⟩
 case rest=>
  obtain⟨rfl,hW⟩:=hcut;obtain⟨tv6,lv6,ot6,ol6,B6,F6⟩:=hW.out;clear hW xa1 ya1 xb1 yb1 zb1 ub1 p1 q1 r1 s1 ra1 rb1 ha1 hb1 xa2 ya2 xb2 yb2 zb2 ub2 p2 q2 r2 s2 ra2 rb2 ha2 hb2 xa5 ya5 xb5 yb5 zb5 ub5 p5 q5 r5 s5 ra5 rb5 ha5 hb5 al1 al2 al3 al4 al5 al6 al7 al8 al9 al10 ltwa1 e0 e1 e2 e3 FW5 HB5 HOW HNW g4 HOPT HCALL HCL HF HBB HB3 O3;generalize wc=W6 at*;have hpL6:p'<(st.lasts++[(-1:Int)]).length:=by rw[List.length_append,hLn.out];simp;omega
  have hiX6:p'<(X++[z1n x A1 c1 o1 (p':Int)]).length:=by rw[List.length_append];simp;omega
  obtain⟨gl,offl,capl,hvl,hol,hcl,hfl⟩:=B6.last_at hpL6;subst hvl;have hlv:(st.lasts++[(-1:Int)])[p']'hpL6=(-1):=by have h1:=List.getElem?_eq_getElem hpL6;rw[List.getElem?_append_left (by rw[hLn.out];exact hpX),HLG.out] at h1;exact(Option.some.inj h1).symm
  rw[hlv] at hcl;obtain⟨g,off,cap,hv6,ho6,hc6,hf6⟩:=B6.node_at hiX6;simp only[Value.slice.injEq] at hv6;obtain⟨rfl, -,rfl⟩:=hv6;subst ho6 hol;have hcj:=hc6 4 (by decide);simp only[nodeC,List.getElem?_cons_zero,List.getElem?_cons_succ,←Nat.add_assoc] at hcj;have hfj:=hf6 (off+p'*7+4);obtain⟨y0,y1,y2,y3,y4,yf⟩:=B6.facts;rw[hi] at y3;have hbg:=(B6.bn g rfl).1;have hbl:=(B6.bl gl rfl).1
  have B7:BldL (W6.setCell ⟨g,off+p'*7+4,none⟩ (.int .i64 (X.length:Int))) base b _ _ _ _ _ _ ((X++[z1n x A1 c1 o1 (p':Int)]).set p' ⟨{((X++[z1n x A1 c1 o1 (p':Int)])[p']'hiX6).v with first:=(X.length:Int)},((X++[z1n x A1 c1 o1 (p':Int)])[p']'hiX6).oa,((X++[z1n x A1 c1 o1 (p':Int)])[p']'hiX6).ats⟩) (st.texts++[⟨#[]⟩]) (st.lasts++[-1]) st.inn st.deep:=
   B6.node_ hiX6 (j:=4) (by decide) (u:=.int .i64 (X.length:Int)) rfl rfl ⟨rfl,rfl,rfl,rfl⟩
  obtain⟨z0,z1,z2,z3,z4,zf⟩:=B7.facts;rw[hi] at z3;obtain⟨gl',offl',capl',hvl',hol',hcl',hfl'⟩:=B7.last_at hpL6;simp only[Value.slice.injEq,Option.some.injEq,Addr.mk.injEq] at hvl';obtain⟨⟨rfl,rfl, -⟩, -, -⟩:=hvl';rw[hlv] at hcl';have hfl2:=hfl' (offl+p');have B8:=B7.last_ hpL6 (X.length:Int);simp only[Nat.mul_one,Nat.add_zero] at B8;obtain⟨v0,v1,v2,v3,v4,vf⟩:=B8.facts;rw[hi] at v3;have vf3:=vf 3;have vf4:=vf 4;have HB8:=hide B8;have HF8:=hide ((F6.setCell (p:=⟨g,off+p'*7+4,none⟩) (.inl hbg) (.int .i64 (X.length:Int))).setCell (p:=⟨gl,offl+p',none⟩) (.inl hbl) (.int .i64 (X.length:Int)));have HB6:=hide B6;have hX64:(X.length:Int)+1≤5000:=by omega
  have hpl:(p':Int)<(st.lasts.length:Int)+1:=by have:=hLn.out;omega
  have hpl0:(st.lasts.length:Int)+1≤5000:=by have:=hLn.out;omega
  clear B7 B8 B6 F6 hf6 hfl hfl' yf zf vf hc6 hlv hol';go_wp2_with fail;go_region;go_wp2_with fail;go_region;generalize hW7:W6.setCell ⟨g,off+p'*7+4,none⟩ (.int .i64 (X.length:Int))=W7 at*;clear y0 y1 y2 y3 y4 hcl hcj hfj hW7;go_wp2_with fail;go_region;generalize hW8:W7.setCell ⟨gl,offl+p',none⟩ (.int .i64 (X.length:Int))=W8 at*;clear z0 z1 z2 z3 z4 hcl' hfl2 hW8;go_wp2_with fail;go_ret;refine⟨rfl, ?_, ?_⟩
  · have hm:((X++[z1n x A1 c1 o1 (p':Int)]).set p' ⟨{((X++[z1n x A1 c1 o1 (p':Int)])[p']'hiX6).v with first:=(X.length:Int)},((X++[z1n x A1 c1 o1 (p':Int)])[p']'hiX6).oa,((X++[z1n x A1 c1 o1 (p':Int)])[p']'hiX6).ats⟩).map (·.model)=z27 (st.nodes++[newN x (p':Int)]) (p':Int) (-1) X.length:=by rw[z5e (f:=fstN (X.length:Int)) hiX6 rfl,List.map_append,HX.out];unfold z27;rw[if_pos rfl,Int.toNat_natCast];rfl
    have B9:=(HB8.out.inn_ (X.length:Int)).deep_ (st.deep+1);rw[←HR.out,←HLEN.out];first|exact BldS.drew (BldS.drew (BldS.drew ⟨_,_,_,_,_,_,_,B9,hm⟩))|exact BldS.drew (BldS.drew ⟨_,_,_,_,_,_,_,B9,hm⟩)|exact BldS.drew ⟨_,_,_,_,_,_,_,B9,hm⟩|exact⟨_,_,_,_,_,_,_,B9,hm⟩
  · have HF9:=(HF8.out.setCell (p:=⟨b,3,none⟩) (.inl HB8.out.nb) (.int .i64 (X.length:Int))).setCell (p:=⟨b,4,none⟩) (.inl HB8.out.nb) (.int .i64 ((st.deep:Int)+1));first|exact HF9.drew.drew.drew|exact HF9.drew.drew|exact HF9.drew|exact HF9
end Go.Proofs.YtnlacmnoocigiaaGreatDoor
namespace Go.Proofs.YtnlacmnoocigiaaGreatDoor
open Go.RowKit Go.Lib
attribute [local go_sem ↓] Go.wp_at_zero Go.wp_at_succ
attribute [local go_sem ↓] z5p
set_option maxRecDepth 100000 in
set_option maxHeartbeats 16000000 in
theorem zm9 (w:World)(base b:Nat)(st:BldM)(x:Tok)(A:Option Addr)(c:Nat)(S:Nat→Prop)(h:OpS w base b st x A c S)(p:Nat)(hi:st.inn=(p:Int))(q:Nat)(hlast:z2a st=(q:Int))(st':BldM)(hr:z0n st x=.inl st'):
 Calls Tryz.prog 24 #[.pointer (some ⟨b,0,none⟩),tokA x A (z01 x).length c] w (z10 w base b (.inl st')):=by
 unfold tokA;have fa:Fr (fun _=>False) w (w.alloc (.cells #[.int .u8 (x.kind:Int),.string (bs x.name),.slice A (z01 x).length c,.string (bs x.text),.int .i64 (x.at_:Int)] 76)):=Fr.alloc (Fr.refl _ _) _;have hbx:=heap_alloc_new w (.cells #[.int .u8 (x.kind:Int),.string (bs x.name),.slice A (z01 x).length c,.string (bs x.text),.int .i64 (x.at_:Int)] 76);have HCL:=hide (z90 S _ (z01 x) _ (h.rd.fr fa (fun k hk=>⟨h.hS k hk,fun h=>h⟩)) (fun k hk=>Nat.lt_of_lt_of_le (h.hS k hk) fa.size) h.hl);have HL:=hide h.hl
 have HCALL:=hide (show ∀(W:World) (A1:Option Addr) (c1:Nat) (o1:Option Nat),Own pairC W 47 (.slice A1 (z01 x).length c1) o1 (z01 x)→Fr (fun _=>False) (w.alloc (.cells #[.int .u8 (x.kind:Int),.string (bs x.name),.slice A (z01 x).length c,.string (bs x.text),.int .i64 (x.at_:Int)] 76)) W→(∀k,o1=some k→(w.alloc (.cells #[.int .u8 (x.kind:Int),.string (bs x.name),.slice A (z01 x).length c,.string (bs x.text),.int .i64 (x.at_:Int)] 76)).heap.size≤k)→
  Calls Tryz.prog 49 #[.slice A1 (z01 x).length c1,.func (.func 50) #[] #[]] W fun e w2=>
  e=.returned (.tuple #[])∧Fr (fun _=>False) (w.alloc (.cells #[.int .u8 (x.kind:Int),.string (bs x.name),.slice A (z01 x).length c,.string (bs x.text),.int .i64 (x.at_:Int)] 76)) w2∧(∃L2,Own pairC w2 47 (.slice A1 (z01 x).length c1) o1 L2∧adjA L2=decide (dupA (z01 x))∧(¬dupA (z01 x)→L2=z5f (z01 x))) from
  fun W A1 c1 o1 g1 g2 g3=>z91 g1 g2 g3 HL.out)
 obtain⟨nv,tv,lv,on,ot,ol,X,B,hX⟩:=h.hb;obtain⟨An,cn,hnv, -, -⟩:=B.nodes.form;obtain⟨At',ct,htv, -, -⟩:=B.texts.form;obtain⟨Al,cl,hlv, -, -⟩:=B.lasts.form;have hlen:X.length=st.nodes.length:=by rw[←hX,List.length_map]
 rw[List.length_map] at hnv;rw[h.iv.t,←hlen] at htv;rw[h.iv.l,←hlen] at hlv;subst hnv htv hlv;have hTn:=hide (show st.texts.length=X.length by rw[h.iv.t,hlen]);have hLn:=hide (show st.lasts.length=X.length by rw[h.iv.l,hlen]);have FA:=hide fa;have HF:=hide (fun(W:World) (f:Fr (fun _=>False) w W)=>(B.same f).facts);have HBB:=hide (fun(W:World) (f:Fr (fun _=>False) w W)=>(B.same f));have hn:=h.iv.n;have hd64:=h.iv.d;unfold z0n at hr;have hnA:¬((st.inn= -1∧st.nodes≠[])∨dupA (z01 x)):=fun g=>by rw[if_pos g] at hr;cases hr
 rw[if_neg hnA] at hr;have hnL:¬(st.nodes.length=4096∨st.deep=64):=fun g=>by rw[if_pos g] at hr;cases hr
 rw[if_neg hnL] at hr;have hdup:¬dupA (z01 x):=fun g=>hnA (.inr g);have l1:((X.length:Int)==4096)=false:=by rw[beq_eq_false_iff_ne];omega
 have l2:((st.deep:Int)==64)=false:=by rw[beq_eq_false_iff_ne];omega
 have hin:st.inn≠ -1:=by omega
 simp only[Sum.inl.injEq,if_neg hin,hi,if_neg (show ¬(p:Int)= -1 by omega),Int.toNat_natCast] at hr;obtain⟨p',hp',hpn,hpT,hpL,hd0, -⟩:=h.iv.open_ hin;obtain rfl:p'=p:=by omega
 have hi3:((p':Int)== -1)=false:=by rw[beq_eq_false_iff_ne];omega
 have hi4:¬(p':Int)= -1:=by omega
 have hpi:(p':Int)<(X.length:Int)+1:=by omega
 have hpX:p'<X.length:=by omega
 have hlastg:st.lasts[p']? =some (z2a st):=by unfold z2a;rw[hi,Int.toNat_natCast,List.getElem?_eq_getElem hpL];rfl
 have hqn:q<X.length:=by
  rw[List.getElem?_eq_getElem hpL,Option.some.injEq] at hlastg;rcases h.iv.last hpL with g|g
  · rw[hlastg,hlast] at g;omega
  · rw[hlastg,hlast] at g;omega
 rw[hlast] at hlastg hr;have hq3:((q:Int)== -1)=false:=by rw[beq_eq_false_iff_ne];omega
 have hqi:(q:Int)<(X.length:Int)+1:=by omega
 have HLG:=hide hlastg;have HPL:=hide hpL;clear hlastg hp' hpn hpT hpL hin hd0;have HD:=hide hdup
 have HOPT:=hide (show ∀w3 A1 c1 o1 L2,Fr (fun _=>False) (w.alloc (.cells #[.int .u8 (x.kind:Int),.string (bs x.name),.slice A (z01 x).length c,.string (bs x.text),.int .i64 (x.at_:Int)] 76)) w3→Own pairC w3 47 (.slice A1 (z01 x).length c1) o1 L2→(¬dupA (z01 x)→L2=z5f (z01 x))→(∀k,o1=some k→(w.alloc (.cells #[.int .u8 (x.kind:Int),.string (bs x.name),.slice A (z01 x).length c,.string (bs x.text),.int .i64 (x.at_:Int)] 76)).heap.size≤k)→OpT w w3 base b st x A1 c1 o1 (p':Int) from
  fun w3 A1 c1 o1 L2 g1 g2 g3 g4=>⟨fa.trans g1,by rw[←g3 HD.out];exact g2,fun k hk=>by have:=g4 k hk;simp at this;omega,
   (g1.cell (p:=⟨w.heap.size,1,none⟩) (by simp) (fun h=>h)).trans (by rw[cell_of_row _ _ _ _ _ _ hbx];rfl),
   (g1.cell (p:=⟨w.heap.size,4,none⟩) (by simp) (fun h=>h)).trans (by rw[cell_of_row _ _ _ _ _ _ hbx];rfl)⟩)
 have HX:=hide hX;have HR:=hide hr;clear hr hnA hnL hdup B hX hbx;have hXn:X.length≤4096:=by omega
 have HLEN:=hide hlen;clear hn hlen;go_enter Tryz.func24,Tryz.ntmps24
 go_wp2_with (first
  |(go_at_call 48;refine HCL.out.mono ?_;rintro e w1 ⟨A1,c1,o1,rfl,own1,f1,n1⟩)
  |(go_at_call 49;refine(HCALL.out _ _ _ _ own1 f1 n1).mono ?_;rintro e w2 ⟨rfl,f2,L2,ho2,ht2,hs2⟩;rw[decide_eq_false HD.out] at ht2;have HTW:=z3w _ _ _ _ L2 w2 ho2.rd ho2.lt;rw[ht2] at HTW;have HTW2:=hide HTW;have HS2:=hide hs2;clear HTW ht2 hs2;obtain⟨b0,b1,b2,b3,b4,bf⟩:=HF.out w2 (FA.out.trans f2);rw[hi] at b3)
  |(go_at_call 51;refine HTW2.out.mono ?_;rintro e w3 ⟨rfl,f3⟩;have O3:=hide (HOPT.out w3 A1 c1 o1 L2 (f2.trans f3) (ho2.fr f3 (fun _ _ h=>h)) HS2.out n1);obtain⟨d0,d1,d2,d3,d4,df⟩:=HF.out w3 O3.out.fr;rw[hi] at d3))
 clear own1 f1 b0 b1 b2 b3 b4 bf ho2;have HB3:=hide (HBB.out w3 O3.out.fr);have m1:=O3.out.nm;have m4:=O3.out.at_;have ltb:=HB3.out.lt;have ltx:w.heap.size<w3.heap.size:=by have:=f3.size;have:=f2.size;simp at this;omega
 have nbn:¬on=some b:=fun e=>(HB3.out.bn b e).2 rfl;have nxn:¬on=some w.heap.size:=fun e=>by have:=HBB.out w (Fr.refl _ _);have:=this.nodes.lt _ e;omega
 clear f2 f3 HTW2 HS2 n1 d1 d2 d4;obtain⟨v4,w4,o4,hrun0,hown,hfr4,hnew4⟩:=z0s (P:=Tryz.prog) (C:=nodeC) (ty:=29) zes (w3.drew.alloc (.cells #[.string (bs x.name),.slice A1 (z01 x).length c1,.string ⟨#[]⟩,.int .i64 (p':Int),.int .i64 (-1),.int .i64 (-1),.int .i64 (x.at_:Int)] 45)) (HB3.out.nodes.fr (Fr.alloc (Fr.drew (Fr.refl (fun _=>False) _)) _) (fun _ _ h=>h)) (zit w3.drew ⟨bs x.name,A1,(z01 x).length,c1,⟨#[]⟩,(p':Int), -1, -1,(x.at_:Int)⟩ 45) (by rw[List.length_map];simp;omega);obtain⟨A4,c4,hv4, -, -⟩:=hown.form;rw[List.length_append,List.length_map] at hv4;subst hv4;have hrun:(zgy #[29,29] 29 #[.slice An X.length cn,.slice (some ⟨w3.heap.size,0,none⟩) 1 1]).run Tryz.prog (w3.alloc (.cells #[.string (bs x.name),.slice A1 (z01 x).length c1,.string ⟨#[]⟩,.int .i64 (p':Int),.int .i64 (-1),.int .i64 (-1),.int .i64 (x.at_:Int)] 45)).drew=.ok (.slice A4 (X.length+1) c4) w4:=hrun0;have g4:=hide ((Fr.alloc (Fr.drew (Fr.refl (fun k=>on=some k) w3)) (.cells #[.string (bs x.name),.slice A1 (z01 x).length c1,.string ⟨#[]⟩,.int .i64 (p':Int),.int .i64 (-1),.int .i64 (-1),.int .i64 (x.at_:Int)] 45)).trans hfr4);have k0:=(g4.out.cell (p:=⟨b,0,none⟩) ltb nbn).trans d0;have kf:=(g4.out.frozen (p:=⟨b,0,none⟩) ltb nbn).trans (df 0);have HOW:=hide hown;have HNW:=hide hnew4;clear hrun0 hown hnew4 hfr4 df;go_region;have B5:=HB3.out.nodes_ (x:=z1n x A1 c1 o1 (p':Int)) g4.out HOW.out (fun k hk=>(HNW.out k hk).imp id (fun g=>by have:=g.1;simp at this;omega)) O3.out.ok (fun k hk=>by have h1:=O3.out.new k hk;have hBw:=HBB.out w (Fr.refl _ _);have hbw:=h.bw;exact⟨by omega,by have:=hBw.lt;omega,fun e=>by have:=hBw.nodes.lt k e;omega,fun e=>by have:=hBw.texts.lt k e;omega,fun e=>by have:=hBw.lasts.lt k e;omega⟩)
 have FW5:=hide (show Fr (fun k=>base≤k) w (w4.setCell ⟨b,0,none⟩ (.slice A4 (X.length+1) c4)) from
  ((O3.out.fr.mono (fun _ h=>h.elim)).trans (g4.out.mono (fun k hk=>(HB3.out.bn k hk).1))).setCell (p:=⟨b,0,none⟩) (.inl HB3.out.nb) _)
 clear k0 kf m1 m4 ltx nxn nbn ltb d0 d3 hrun;generalize (w4.setCell ⟨b,0,none⟩ (.slice A4 (X.length+1) c4))=W5 at*;obtain⟨e0,e1,e2,e3,e4,ef⟩:=B5.facts;rw[hi] at e3;have F1:=Fr.drew (Fr.alloc (Fr.refl (fun _=>False) W5) (.cells #[.string ⟨#[]⟩] 9));have F12:=Fr.drew (Fr.alloc (Fr.alloc (Fr.refl (fun _=>False) W5) (.cells #[.string ⟨#[]⟩] 9)) (.cells #[.int .i64 (-1)] 3));have F21:=Fr.drew (Fr.alloc (Fr.alloc (Fr.refl (fun _=>False) W5) (.cells #[.int .i64 (-1)] 3)) (.cells #[.string ⟨#[]⟩] 9));have c12a:(((W5.alloc (.cells #[.string ⟨#[]⟩] 9)).alloc (.cells #[.int .i64 (-1)] 3)).drew).heap[W5.heap.size]? =some (.cells #[.string ⟨#[]⟩] 9):=by show ((W5.alloc (.cells #[.string ⟨#[]⟩] 9)).alloc (.cells #[.int .i64 (-1)] 3)).heap[W5.heap.size]? =_;rw[Below.heap_alloc _ _ _ (by simp)];exact heap_alloc_new W5 _
 have c12b:(((W5.alloc (.cells #[.string ⟨#[]⟩] 9)).alloc (.cells #[.int .i64 (-1)] 3)).drew).heap[W5.heap.size+1]? =some (.cells #[.int .i64 (-1)] 3):=by rw[show W5.heap.size+1=(W5.alloc (.cells #[.string ⟨#[]⟩] 9)).heap.size from by simp];exact heap_alloc_new (W5.alloc (.cells #[.string ⟨#[]⟩] 9)) (.cells #[.int .i64 (-1)] 3)
 have c21a:(((W5.alloc (.cells #[.int .i64 (-1)] 3)).alloc (.cells #[.string ⟨#[]⟩] 9)).drew).heap[W5.heap.size]? =some (.cells #[.int .i64 (-1)] 3):=by show ((W5.alloc (.cells #[.int .i64 (-1)] 3)).alloc (.cells #[.string ⟨#[]⟩] 9)).heap[W5.heap.size]? =_;rw[Below.heap_alloc _ _ _ (by simp)];exact heap_alloc_new W5 _
 have c21b:(((W5.alloc (.cells #[.int .i64 (-1)] 3)).alloc (.cells #[.string ⟨#[]⟩] 9)).drew).heap[W5.heap.size+1]? =some (.cells #[.string ⟨#[]⟩] 9):=by rw[show W5.heap.size+1=(W5.alloc (.cells #[.int .i64 (-1)] 3)).heap.size from by simp];exact heap_alloc_new (W5.alloc (.cells #[.int .i64 (-1)] 3)) (.cells #[.string ⟨#[]⟩] 9)
 obtain⟨Aa1,ca1,wa1,ra1,ha1⟩:=z68 B5 hTn.out hXn F1 (heap_alloc_new W5 _);obtain⟨Ab1,cb1,wb1,rb1,hb1⟩:=z4b B5 hLn.out hXn F1 ha1 (Fr.alloc (Fr.refl _ _) (.cells #[.int .i64 (-1)] 3)) (heap_alloc_new wa1 _);obtain⟨Aa2,ca2,wa2,ra2,ha2⟩:=z68 B5 hTn.out hXn F12 c12a;obtain⟨Ab2,cb2,wb2,rb2,hb2⟩:=z4b B5 hLn.out hXn F12 ha2 (Fr.refl _ _) (z4h B5 ha2 (Nat.le_succ _) c12b);obtain⟨Aa5,ca5,wa5,ra5,ha5⟩:=z68 B5 hTn.out hXn F21 c21b;obtain⟨Ab5,cb5,wb5,rb5,hb5⟩:=z4b B5 hLn.out hXn F21 ha5 (Fr.refl _ _) (z4h B5 ha5 (Nat.le_refl _) c21a);obtain⟨xa1,ya1⟩:=z1q B5 F1 ha1;obtain⟨xb1,yb1,zb1,ub1,p1,q1,r1,s1⟩:=z4c B5 hb1;rw[hi] at zb1;obtain⟨xa2,ya2⟩:=z1q B5 F12 ha2;obtain⟨xb2,yb2,zb2,ub2,p2,q2,r2,s2⟩:=z4c B5 hb2;rw[hi] at zb2;obtain⟨xa5,ya5⟩:=z1q B5 F21 ha5;obtain⟨xb5,yb5,zb5,ub5,p5,q5,r5,s5⟩:=z4c B5 hb5;rw[hi] at zb5;have al1:=(Fr.cell (Fr.alloc (Fr.refl (fun _=>False) W5) (.cells #[.string ⟨#[]⟩] 9)) (p:=⟨b,1,none⟩) B5.lt (fun h=>h)).trans e1;have al2:=(Fr.cell (Fr.alloc (Fr.refl (fun _=>False) W5) (.cells #[.string ⟨#[]⟩] 9)) (p:=⟨b,2,none⟩) B5.lt (fun h=>h)).trans e2;have al3:=(Fr.cell (Fr.alloc (Fr.refl (fun _=>False) W5) (.cells #[.int .i64 (-1)] 3)) (p:=⟨b,1,none⟩) B5.lt (fun h=>h)).trans e1;have al4:=(Fr.cell (Fr.alloc (Fr.refl (fun _=>False) W5) (.cells #[.int .i64 (-1)] 3)) (p:=⟨b,2,none⟩) B5.lt (fun h=>h)).trans e2;have al5:=(Fr.cell (Fr.alloc (Fr.alloc (Fr.refl (fun _=>False) W5) (.cells #[.string ⟨#[]⟩] 9)) (.cells #[.int .i64 (-1)] 3)) (p:=⟨b,1,none⟩) B5.lt (fun h=>h)).trans e1;have al6:=(Fr.cell (Fr.alloc (Fr.alloc (Fr.refl (fun _=>False) W5) (.cells #[.string ⟨#[]⟩] 9)) (.cells #[.int .i64 (-1)] 3)) (p:=⟨b,2,none⟩) B5.lt (fun h=>h)).trans e2;have al7:=(Fr.cell (Fr.alloc (Fr.alloc (Fr.refl (fun _=>False) W5) (.cells #[.int .i64 (-1)] 3)) (.cells #[.string ⟨#[]⟩] 9)) (p:=⟨b,1,none⟩) B5.lt (fun h=>h)).trans e1;have al8:=(Fr.cell (Fr.alloc (Fr.alloc (Fr.refl (fun _=>False) W5) (.cells #[.int .i64 (-1)] 3)) (.cells #[.string ⟨#[]⟩] 9)) (p:=⟨b,2,none⟩) B5.lt (fun h=>h)).trans e2;have ltwa1:b<wa1.heap.size:=World.block_lt_of_cell? wa1 ⟨b,1,none⟩ xa1;have al9:=(Fr.cell (Fr.alloc (Fr.refl (fun _=>False) wa1) (.cells #[.int .i64 (-1)] 3)) (p:=⟨b,1,none⟩) ltwa1 (fun h=>h)).trans xa1;have al10:=(Fr.cell (Fr.alloc (Fr.refl (fun _=>False) wa1) (.cells #[.int .i64 (-1)] 3)) (p:=⟨b,2,none⟩) ltwa1 (fun h=>h)).trans ya1;have HB5:=hide B5;clear B5 F1 F12 F21 c12a c12b c21a c21b ef e4;go_wp2_with fail;go_cut [0] from 8 (fun a0 wx=>a0=.pointer (some ⟨b,0,none⟩)∧Hid (∃tv' lv' ot' ol',BldL wx base b (.slice A4 (X.length+1) c4) tv' lv' o4 ot' ol' (X++[z1n x A1 c1 o1 (p':Int)]) (st.texts++[⟨#[]⟩]) (st.lasts++[-1]) st.inn st.deep∧Fr (fun k=>base≤k) w wx))
 case first=>
  go_region
  · go_wp2_with fail
    go_meet
    case rel=>
     obtain⟨ot6,ol6,t6⟩:=hb1.out;exact⟨rfl,hide ⟨_,_,_,_,HB5.out.two_ t6,((FW5.out.trans (t6.fr.mono (fun k hk=>hk.elim (fun e=>(HB5.out.bt k e).1) (fun e=>(HB5.out.bl k e).1)))).setCell (p:=⟨b,1,none⟩) (.inl HB5.out.nb) _).setCell (p:=⟨b,2,none⟩) (.inl HB5.out.nb) _⟩⟩
  · go_wp2_with fail
    go_meet
    case rel=>
     obtain⟨ot6,ol6,t6⟩:=hb2.out;exact⟨rfl,hide ⟨_,_,_,_,HB5.out.two_ t6,((FW5.out.trans (t6.fr.mono (fun k hk=>hk.elim (fun e=>(HB5.out.bt k e).1) (fun e=>(HB5.out.bl k e).1)))).setCell (p:=⟨b,1,none⟩) (.inl HB5.out.nb) _).setCell (p:=⟨b,2,none⟩) (.inl HB5.out.nb) _⟩⟩
  · go_wp2_with fail
    go_meet
    case rel=>
     obtain⟨ot6,ol6,t6⟩:=hb5.out;exact⟨rfl,hide ⟨_,_,_,_,HB5.out.two_ t6,((FW5.out.trans (t6.fr.mono (fun k hk=>hk.elim (fun e=>(HB5.out.bt k e).1) (fun e=>(HB5.out.bl k e).1)))).setCell (p:=⟨b,1,none⟩) (.inl HB5.out.nb) _).setCell (p:=⟨b,2,none⟩) (.inl HB5.out.nb) _⟩⟩
 case rest=>
  obtain⟨rfl,hW⟩:=hcut;obtain⟨tv6,lv6,ot6,ol6,B6,F6⟩:=hW.out;clear hW xa1 ya1 xb1 yb1 zb1 ub1 p1 q1 r1 s1 ra1 rb1 ha1 hb1 xa2 ya2 xb2 yb2 zb2 ub2 p2 q2 r2 s2 ra2 rb2 ha2 hb2 xa5 ya5 xb5 yb5 zb5 ub5 p5 q5 r5 s5 ra5 rb5 ha5 hb5 al1 al2 al3 al4 al5 al6 al7 al8 al9 al10 ltwa1 e0 e1 e2 e3 FW5 HB5 HOW HNW g4 HOPT HCALL HCL HF HBB HB3 O3;generalize wc=W6 at*;have hpL6:p'<(st.lasts++[(-1:Int)]).length:=by rw[List.length_append,hLn.out];simp;omega
  have hiX6:q<(X++[z1n x A1 c1 o1 (p':Int)]).length:=by rw[List.length_append];simp;omega
  obtain⟨gl,offl,capl,hvl,hol,hcl,hfl⟩:=B6.last_at hpL6;subst hvl;have hlv:(st.lasts++[(-1:Int)])[p']'hpL6=(q:Int):=by have h1:=List.getElem?_eq_getElem hpL6;rw[List.getElem?_append_left (by rw[hLn.out];exact hpX),HLG.out] at h1;exact(Option.some.inj h1).symm
  rw[hlv] at hcl;obtain⟨g,off,cap,hv6,ho6,hc6,hf6⟩:=B6.node_at hiX6;simp only[Value.slice.injEq] at hv6;obtain⟨rfl, -,rfl⟩:=hv6;subst ho6 hol;have hcj:=hc6 5 (by decide);simp only[nodeC,List.getElem?_cons_zero,List.getElem?_cons_succ,←Nat.add_assoc] at hcj;have hfj:=hf6 (off+q*7+5);obtain⟨y0,y1,y2,y3,y4,yf⟩:=B6.facts;rw[hi] at y3;have hbg:=(B6.bn g rfl).1;have hbl:=(B6.bl gl rfl).1
  have B7:BldL (W6.setCell ⟨g,off+q*7+5,none⟩ (.int .i64 (X.length:Int))) base b _ _ _ _ _ _ ((X++[z1n x A1 c1 o1 (p':Int)]).set q ⟨{((X++[z1n x A1 c1 o1 (p':Int)])[q]'hiX6).v with next:=(X.length:Int)},((X++[z1n x A1 c1 o1 (p':Int)])[q]'hiX6).oa,((X++[z1n x A1 c1 o1 (p':Int)])[q]'hiX6).ats⟩) (st.texts++[⟨#[]⟩]) (st.lasts++[-1]) st.inn st.deep:=
   B6.node_ hiX6 (j:=5) (by decide) (u:=.int .i64 (X.length:Int)) rfl rfl ⟨rfl,rfl,rfl,rfl⟩
  obtain⟨z0,z1,z2,z3,z4,zf⟩:=B7.facts;rw[hi] at z3;obtain⟨gl',offl',capl',hvl',hol',hcl',hfl'⟩:=B7.last_at hpL6;simp only[Value.slice.injEq,Option.some.injEq,Addr.mk.injEq] at hvl';obtain⟨⟨rfl,rfl, -⟩, -, -⟩:=hvl';rw[hlv] at hcl';have hfl2:=hfl' (offl+p');have B8:=B7.last_ hpL6 (X.length:Int);simp only[Nat.mul_one,Nat.add_zero] at B8;obtain⟨v0,v1,v2,v3,v4,vf⟩:=B8.facts;rw[hi] at v3;have vf3:=vf 3;have vf4:=vf 4;have HB8:=hide B8;have HF8:=hide ((F6.setCell (p:=⟨g,off+q*7+5,none⟩) (.inl hbg) (.int .i64 (X.length:Int))).setCell (p:=⟨gl,offl+p',none⟩) (.inl hbl) (.int .i64 (X.length:Int)));have HB6:=hide B6;have hX64:(X.length:Int)+1≤5000:=by omega
  have hpl:(p':Int)<(st.lasts.length:Int)+1:=by have:=hLn.out;omega
  have hpl0:(st.lasts.length:Int)+1≤5000:=by have:=hLn.out;omega
  clear B7 B8 B6 F6 hf6 hfl hfl' yf zf vf hc6 hlv hol';go_wp2_with fail;go_region;go_wp2_with fail;generalize hW7:W6.setCell ⟨g,off+q*7+5,none⟩ (.int .i64 (X.length:Int))=W7 at*;clear y0 y1 y2 y3 y4 hcl hcj hfj hW7;go_wp2_with fail;go_region;generalize hW8:W7.setCell ⟨gl,offl+p',none⟩ (.int .i64 (X.length:Int))=W8 at*;clear z0 z1 z2 z3 z4 hcl' hfl2 hW8;go_wp2_with fail;go_ret;refine⟨rfl, ?_, ?_⟩
  · have hm:((X++[z1n x A1 c1 o1 (p':Int)]).set q ⟨{((X++[z1n x A1 c1 o1 (p':Int)])[q]'hiX6).v with next:=(X.length:Int)},((X++[z1n x A1 c1 o1 (p':Int)])[q]'hiX6).oa,((X++[z1n x A1 c1 o1 (p':Int)])[q]'hiX6).ats⟩).map (·.model)=z27 (st.nodes++[newN x (p':Int)]) (p':Int) (q:Int) X.length:=by rw[z5e (f:=nxtN (X.length:Int)) hiX6 rfl,List.map_append,HX.out];unfold z27;rw[if_neg (by omega),Int.toNat_natCast];rfl
    have B9:=(HB8.out.inn_ (X.length:Int)).deep_ (st.deep+1);rw[←HR.out,←HLEN.out];first|exact BldS.drew (BldS.drew (BldS.drew ⟨_,_,_,_,_,_,_,B9,hm⟩))|exact BldS.drew (BldS.drew ⟨_,_,_,_,_,_,_,B9,hm⟩)|exact BldS.drew ⟨_,_,_,_,_,_,_,B9,hm⟩|exact⟨_,_,_,_,_,_,_,B9,hm⟩
  · have HF9:=(HF8.out.setCell (p:=⟨b,3,none⟩) (.inl HB8.out.nb) (.int .i64 (X.length:Int))).setCell (p:=⟨b,4,none⟩) (.inl HB8.out.nb) (.int .i64 ((st.deep:Int)+1));first|exact HF9.drew.drew.drew|exact HF9.drew.drew|exact HF9.drew|exact HF9
end Go.Proofs.YtnlacmnoocigiaaGreatDoor
namespace Go.Proofs.YtnlacmnoocigiaaGreatDoor
open Go.RowKit Go.Lib
attribute [local go_sem ↓] Go.wp_at_zero Go.wp_at_succ
set_option maxRecDepth 100000 in
set_option maxHeartbeats 4000000 in
theorem zc0 (s:ByteArray)(w:World)(hs:s.size≤100000):
 Calls Tryz.prog 39 #[.string s] w fun e w'=>e=.returned (wp3 (z04 s.data.toList))∧Fr (fun _=>False) w w':=by
 have hl:s.data.toList.length=s.size:=rfl;obtain⟨R,hR⟩:∃R,z04 s.data.toList=R:=⟨_,rfl⟩;rw[hR];unfold z04 at hR;rw[hl] at hR;have HR:=hide hR;clear hR;go_enter Tryz.func39,Tryz.ntmps39;go_wp2_with fail;go_loopw [5,6] (fun o i wr=>∃(p f:Nat) (A:ByteArray),o=.string A∧i=.int .i64 p∧p≤s.size∧A.size≤4*p∧Hid (Fr (fun _=>False) w wr)∧Hid (decode f (s.data.toList.drop p) A.data.toList p=R∧s.size≤p+f)) (fun _ i _=>s.size - (Go.RowKit.intOf i).toNat)
 case atStart=>exact⟨0,s.size,⟨#[]⟩,rfl,rfl,by omega,by decide,Fr.refl _ _,by simpa using HR.out,by omega⟩
 case round=>
  obtain⟨p,f,A,rfl,rfl,hp,hA,hfr,hd⟩:=hrel;by_cases hps:p<s.size
  · obtain⟨f,rfl⟩:∃f',f=f'+1:=⟨f - 1,by have:=hd.out.2;omega⟩;have hpi:(p:Int)<(s.size:Int):=by omega
    have hext:(s.extract p s.size).data.toList=s.data.toList.drop p:=extract_to_end s p;have hsz:(s.extract p s.size).size≤100000:=by have:(s.extract p s.size).data.toList.length=(s.extract p s.size).size:=rfl;rw[hext,List.length_drop] at this;omega
    have hcons:s.data.toList.drop p=s[p]'hps::s.data.toList.drop (p+1):=by rw[List.drop_eq_getElem_cons (by omega)];rfl
    have hl0:s.data.toList.drop p≠[]:=by rw[hcons];simp
    have HRF:=zco (s.extract p s.size) wr (by omega);rw[hext] at HRF;have HRF:=hide HRF;have hdec:=hd.out.1;unfold decode at hdec;rw[if_neg hl0] at hdec;have hslen:=zef (s.data.toList.drop p);by_cases hr:(refP (s.data.toList.drop p)).2≠0
    · have hst2:z12 (s.data.toList.drop p)=((refP (s.data.toList.drop p)).1,(refP (s.data.toList.drop p)).2,0):=by unfold z12;rw[if_pos hr]
      have hbd:=(z1u hl0 (by rw[hst2]) []).2.2.1;rw[hst2] at hdec hslen hbd;simp only[ne_eq,not_true_eq_false,if_false,List.drop_drop] at hdec hslen hbd;rw[List.length_drop] at hbd;obtain⟨C,hC⟩:∃C:ByteArray,(⟨(refP (s.data.toList.drop p)).1.toArray⟩:ByteArray)=C:=⟨_,rfl⟩;have hCl:(refP (s.data.toList.drop p)).1=C.data.toList:=by rw[←hC]
      rw[hC] at HRF;rw[hCl] at hdec hslen;have hCz:C.data.toList.length=C.size:=rfl;have HD:=hide (show decode f (s.data.toList.drop (p+(refP (s.data.toList.drop p)).2)) (A++C).data.toList (p+(refP (s.data.toList.drop p)).2)=R by rw[zam];exact hdec);have hAC:(A++C).size=A.size+C.size:=by simp
      have HAC:=hide hAC;clear hdec hst2 hext hsz hcons hl0 hC hCl hAC;generalize (refP (s.data.toList.drop p)).2=n at*;have hn0:(0:Int)<(n:Int):=by omega
      go_wp2_with (go_at_call 67;refine HRF.out.mono ?_;rintro e w1 ⟨rfl,f1⟩)
      go_roundw
      case rel=>exact⟨p+n,f,A++C,rfl,by go_num,by omega,by rw[HAC.out];omega,hfr.out.trans f1,HD.out,by have:=hd.out.2;omega⟩
      case measure=>simp[Go.RowKit.intOf];omega
    · have hr0:refP (s.data.toList.drop p)=([],0):=by
       rcases z5l (s.data.toList.drop p) with h|⟨a,b,_,_,_,h⟩
       · exact h
       · exact absurd (by rw[h];simp) hr
      rw[hr0] at HRF;have hhd:(s.data.toList.drop p).head? =some (s[p]'hps):=by rw[hcons];rfl
      by_cases h38:s[p]'hps=38
      · have hst2:z12 (s.data.toList.drop p)=([],0,30):=by unfold z12;rw[if_neg hr,hhd,h38,if_pos rfl]
        rw[hst2] at hdec;simp only[ne_eq] at hdec;rw[if_pos (by decide:¬(30:Int)=0)] at hdec;have hb:(((s[p]'hps).toNat:Int))=38:=by rw[h38];rfl
        clear hst2 hext hsz hcons hl0 hr0 hr hhd h38 hslen;subst hdec;go_wp2_with (go_at_call 67;refine HRF.out.mono ?_;rintro e w1 ⟨rfl,f1⟩);go_returns;exact⟨rfl,hfr.out.trans f1⟩
      · have hst2:z12 (s.data.toList.drop p)=((s.data.toList.drop p).take (z0u (s.data.toList.drop p)).2.1,(z0u (s.data.toList.drop p)).2.1,(z0u (s.data.toList.drop p)).2.2):=by unfold z12;rw[if_neg hr,hhd,if_neg (fun e=>h38 (by simpa using e))]
        have hb:¬(((s[p]'hps).toNat:Int))=38:=fun e=>h38 (UInt8.toNat_inj.1 (by show _=38;omega));have HN:=fun W=>zfq (s.extract p s.size) W (by omega);rw[hext] at HN;by_cases he:(z0u (s.data.toList.drop p)).2.2=0
        · have hbd:=(z1u hl0 (by rw[hst2];exact he) []).2.2.1;have hbk:=(z1u hl0 (by rw[hst2];exact he) []).2.1;rw[hst2,he] at hdec;rw[hst2] at hbd hslen hbk;simp only[ne_eq,not_true_eq_false,if_false,List.drop_drop] at hdec hbd hslen hbk;rw[List.length_drop] at hbd;rw[he] at HN;have hcx:(s.extract p (p+(z0u (s.data.toList.drop p)).2.1)).data.toList=(s.data.toList.drop p).take (z0u (s.data.toList.drop p)).2.1:=by rw[z1x];congr 1;omega
          rw[←hcx] at hdec hslen;have hxz:(s.extract p (p+(z0u (s.data.toList.drop p)).2.1)).data.toList.length=(s.extract p (p+(z0u (s.data.toList.drop p)).2.1)).size:=rfl;rw[hxz] at hslen;have HD:=hide (show decode f (s.data.toList.drop (p+(z0u (s.data.toList.drop p)).2.1)) (A++s.extract p (p+(z0u (s.data.toList.drop p)).2.1)).data.toList (p+(z0u (s.data.toList.drop p)).2.1)=R by rw[zam];exact hdec);have HAC:=hide (show (A++s.extract p (p+(z0u (s.data.toList.drop p)).2.1)).size≤4*(p+(z0u (s.data.toList.drop p)).2.1) by rw[show (A++s.extract p (p+(z0u (s.data.toList.drop p)).2.1)).size=A.size+(s.extract p (p+(z0u (s.data.toList.drop p)).2.1)).size by simp only[ByteArray.size_append]];omega);have HN:=hide HN;clear hdec hst2 hext hsz hcons hl0 hr0 hr hhd h38 he hcx hxz hslen;generalize (z0u (s.data.toList.drop p)).1=x at*;generalize (z0u (s.data.toList.drop p)).2.1=k at*;have ewk:IntKind.i64.wrap ((p:Int)+(k:Int))=(p:Int)+(k:Int):=IntWalk.i64_in _ (by omega)
          go_wp2_with (first
           |(go_at_call 67;refine HRF.out.mono ?_;rintro e w1 ⟨rfl,f1⟩)
           |(go_at_call 65;refine(HN.out _).mono ?_;rintro e w2 ⟨rfl,f2⟩))
          go_roundw
          case rel=>exact⟨p+k,f,A++s.extract p (p+k),rfl,by go_num,by omega,HAC.out,(hfr.out.trans f1).trans f2,HD.out,by have:=hd.out.2;omega⟩
          case measure=>simp[Go.RowKit.intOf];omega
        · rw[hst2] at hdec;simp only[ne_eq,he,not_false_eq_true,if_true] at hdec;have heb:((z0u (s.data.toList.drop p)).2.2 !=0)=true:=by simpa using he
          have HN:=hide HN;clear hst2 hext hsz hcons hl0 hr0 hr hhd h38 hslen he;generalize (z0u (s.data.toList.drop p)).1=x at*;generalize (z0u (s.data.toList.drop p)).2.1=k at*;generalize (z0u (s.data.toList.drop p)).2.2=e0 at*;subst hdec
          go_wp2_with (first
           |(go_at_call 67;refine HRF.out.mono ?_;rintro e w1 ⟨rfl,f1⟩)
           |(go_at_call 65;refine(HN.out _).mono ?_;rintro e w2 ⟨rfl,f2⟩))
          go_returns;exact⟨rfl,(hfr.out.trans f1).trans f2⟩
  · obtain rfl:p=s.size:=by omega
    have hdec:=hd.out.1;rw[List.drop_of_length_le (by omega)] at hdec
    have hR:R=(A.data.toList,0,0):=by
     rw[←hdec]
     cases f with
     |zero=>rfl
     |succ f=>rfl
    subst hR;clear hdec;go_wp2_with fail;go_returns;exact⟨rfl,hfr.out⟩
def wp2 (r:List UInt8×Int):Value:=.tuple #[.string ⟨r.1.toArray⟩,.int .i64 r.2]
theorem zwl (attr:Bool)(b:UInt8):(escL attr b).length≤6:=by
 unfold escL
 repeat' split
 all_goals simp
theorem zwm (attr:Bool)(l:List UInt8):(encL attr l).length≤6*l.length:=by
 induction l with
 |nil=>simp[encL]
 |cons b l ih=>unfold encL at ih⊢;rw[List.flatMap_cons,List.length_append,List.length_cons];have:=zwl attr b;omega
theorem bn {b c:UInt8}(h:b≠c):¬((b.toNat:Int))=(c.toNat:Int):=zp0 h
end Go.Proofs.YtnlacmnoocigiaaGreatDoor
