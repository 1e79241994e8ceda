/- tree: the law TreeParse: any text has the tree that the document says; what is answered may be written over. -/
import Derived.Test.YtnlacmnoocigiaaGreatDoorTrpSs
import Derived.Test.YtnlacmnoocigiaaGreatDoorTrrO
import Derived.Test.YtnlacmnoocigiaaGreatDoorTrbAll
import Derived.Test.YtnlacmnoocigiaaGreatDoorTrsMo
import Derived.Test.YtnlacmnoocigiaaGreatDoorTrnAb
namespace Go.Proofs.YtnlacmnoocigiaaGreatDoor
open Go.RowKit Go.Lib
attribute [local go_sem ↓] Go.wp_at_zero Go.wp_at_succ
theorem zmh (s:ByteArray)(w:World):Calls Tryz.prog 6 #[.string s] w fun e w'=>∃A n c,e=.returned (.tuple #[.agg #[.slice A n c],.int .i64 (z2v s.data.toList).2.1,.int .i64 (z2v s.data.toList).2.2])∧Tr (z2v s.data.toList).1 w' A n c∧Fr (fun _=>False) w w':=by
 refine(Aw.rparse_con (Φ:=fun _=>True) s w trivial (fun _=>False) [.string s] (fun k hk=>hk.elim) rfl (fun i x v a1 a2=> ?_)).mono (fun e w' h=> ?_)
 · match i with
   |0=>cases a1;cases a2;exact .sc _
   |i+1=>simp at a1
 · obtain⟨v,I',rfl,hm,hv⟩:=h;obtain⟨vs,rfl,hl,hvs⟩:=hv.tup_inv
   match vs,hl with
   |[a,b,c],_=>
    obtain⟨us,rfl,hl2, -,hus⟩:=(hvs 0 _ a rfl rfl).agg_inv
    match us,hl2 with
    |[u],_=>have hb:=(hvs 1 _ b rfl rfl).sc_inv;have hc:=(hvs 2 _ c rfl rfl).sc_inv;subst hb hc;obtain⟨X,h1,h2⟩:=Aw.vc_nodes_inv ((hus 0 _ u rfl rfl).ro_inv);obtain⟨A,cap,hu, -⟩:=h1.rd.form;subst hu;exact⟨A,_,cap,rfl,⟨X,I'.S,h1,hm.slt,h2⟩,hm.fr⟩
theorem zj1 (s:ByteArray)(hs:s.size≤1000):(z2v s.data.toList).1.length≤1000000∧∀x∈(z2v s.data.toList).1,x.attrs.length≤1000000000:=by
 rcases hP:z2v s.data.toList with ⟨N,p,e⟩;by_cases he:e=0
 · subst he;have hpar:=zpu hP;have h1:=(ziq hpar (by rw[Array.length_toList];exact hs)).len;have h2:=zir (zgt hpar);exact⟨by show N.length≤_;omega,fun x hx=>by have:=h2 x hx;omega⟩
 · have:N=[]:=by
    unfold z2v at hP;split at hP
    · cases hP;rfl
    · unfold finM at hP;split at hP
      · cases hP;rfl
      · split at hP
        · cases hP;rfl
        · cases hP;exact absurd rfl he
   subst this;exact⟨by simp,fun x hx=>by cases hx⟩
theorem zmi (b:Bool)(N:List NodeM):zr4 b N N=true:=by
 unfold zr4;rw[decide_eq_true rfl,Bool.true_and]
 induction N with
 |nil=>rfl
 |cons x N ih=>rw[z7s,ih,Bool.and_true];exact(z1w b x x).2 ⟨rfl,rfl,rfl,rfl,rfl,rfl,fun _=>rfl⟩
theorem NodeL.same {w w':World}{base:Nat}{v:Value}{o:Option Nat}{X:List NodeX}(h:NodeL w base v o X)(f:Fr (fun _=>False) w w'):NodeL w' base v o X:=⟨h.own.fr f (fun _ _ h=>h),fun x hx=>(h.ok x hx).fr f (fun _ _ h=>h),fun k hk=>⟨(h.new k hk).1,Nat.lt_of_lt_of_le (h.new k hk).2 f.size⟩,fun x hx k hk=>⟨(h.newa x hx k hk).1,Nat.lt_of_lt_of_le (h.newa x hx k hk).2.1 f.size,(h.newa x hx k hk).2.2⟩⟩
theorem NodeL.tr {w:World}{base:Nat}{A:Option Addr}{c:Nat}{o:Option Nat}{X:List NodeX}(h:NodeL w base (.slice A X.length c) o X):Tr (X.map (·.model)) w A X.length c:=⟨X,_,zti h,fun k hk=>hk.2,rfl⟩
set_option maxRecDepth 100000 in
set_option maxHeartbeats 8000000 in
theorem zf2 (s:ByteArray)(w:World)(hst:St w)(h63:s.size≤9223372036854775807):Calls Tryz.prog 3 #[.string s] w fun e w'=>e=.returned (.bool true)∧Fr (fun _=>False) w w':=by
 have HST:=hide (fun(W:World) (f:Fr (fun _=>False) w W)=>hst.same f);by_cases hbig:1000<s.size
 · have i1:(1000:Int)<s.size:=by omega
   clear hbig hst;go_enter Tryz.func3,Tryz.ntmps3;go_wp2_with (go_at_call 5;refine(zdm _ (HST.out _ (Fr.refl _ _))).mono ?_;rintro e w5 ⟨rfl,f5⟩);go_returns;exact⟨rfl,f5⟩
 have i1:¬(1000:Int)<s.size:=by omega
 have hsm:=zj1 s (by omega);have HRP:=hide (fun(W:World)=>zmh s W);have HPP:=hide (fun(W:World) (h:St W)=>z7j s W h h63);obtain⟨R,hR⟩:∃R,R=z2v s.data.toList:=⟨_,rfl⟩;unfold ParsePost at HPP;rw[←hR] at hsm HRP HPP;obtain⟨N,p,er⟩:=R;have HSM:=hide hsm;clear hbig hst h63 hR hsm;go_enter Tryz.func3,Tryz.ntmps3;go_wp2_with (go_at_call 6;refine(HRP.out _).mono ?_;rintro e w1 ⟨B,n,d,rfl,T1,f1⟩);have TW:=hide (T1.fr (Fr.alloc (Fr.refl _ w1) (.cells #[.slice B n d] 25)));have FW:=hide (Fr.alloc f1 (.cells #[.slice B n d] 25));have hq:(w1.alloc (Obj.cells #[.slice B n d] 25)).cell? ⟨w1.heap.size,0,none⟩=some (.slice B n d):=by go_simp
 clear T1 f1;generalize hW1:w1.alloc (Obj.cells #[Value.slice B n d] 25)=W1 at*;generalize w1.heap.size=q at*;clear hW1;have HQ:=hide hq;go_loopw [6] (fun iv wr=>∃t:Nat,iv=.int .i64 t∧t≤2∧Hid (Fr (fun _=>False) W1 wr)) (fun iv _=>2 - (Go.RowKit.intOf iv).toNat)
 case atStart=>exact⟨0,rfl,by omega,hide (Fr.refl _ _)⟩
 case round=>
  obtain⟨t,rfl,ht,hJ⟩:=hrel;clear hq;by_cases ht2:t<2
  · have htt:(t:Int)<2:=by omega
    have HS2:=hide (HST.out _ (FW.out.trans hJ.out));have HPQ:=hide (HPP.out _ HS2.out);go_wp2_with (go_at_call 7;refine(HPQ.out).mono ?_;rintro e w2 ⟨A,c,o,X,rfl,L2,hXN,f2⟩);have hXN:X.map (·.model)=N:=hXN;have hAl:Fr (fun _=>False) w2 (w2.alloc (Obj.cells #[.slice A X.length c] 31)):=Fr.alloc (Fr.refl _ w2) _;have L3:=hide (L2.same hAl);have hq2:(w2.alloc (Obj.cells #[.slice A X.length c] 31)).cell? ⟨w2.heap.size,0,none⟩=some (.slice A X.length c):=by go_simp
    have F3:=hide (hJ.out.trans (f2.trans hAl));have hbw:wr.heap.size≤(w2.alloc (Obj.cells #[.slice A X.length c] 31)).heap.size:=(f2.trans hAl).size;have F2:=hide (f2.trans hAl);clear L2 f2 hAl;generalize hW2:w2.alloc (Obj.cells #[Value.slice A X.length c] 31)=W2 at*;generalize w2.heap.size=q2 at*;clear hW2;have hq3:W2.cell? ⟨q,0,none⟩=some (.slice B n d):=(F3.out.cell (p:=⟨q,0,none⟩) (World.block_lt_of_cell? _ _ HQ.out) (fun h=>h)).trans HQ.out;have hq2l:=World.block_lt_of_cell? _ _ hq2;have hq3l:=World.block_lt_of_cell? _ _ hq3;have hTA:Tr N W2 A X.length c:=by rw[←hXN];exact L3.out.tr
    have hTW:Tr N W2 B n d:=TW.out.fr F3.out
    have hXl:X.length≤1000000:=by
     have:(X.map (·.model)).length≤1000000:=by rw[hXN];exact HSM.out.1
     rw[List.length_map] at this;exact this
    have HREF:=hide (fun(W:World) (f:Fr (fun _=>False) W2 W)=>zws W (hTA.fr f) hXl HSM.out.2);have HSAME:=hide (fun(W:World) (b:Nat) (B':Option Addr) (d':Nat) (f:Fr (fun _=>False) W2 W) (h:Hid (TrN b N W B' X.length d'))=>zr5 true W h.out.tr (hTW.fr f));rw[zmi] at HSAME;have HC:=hide (And.intro hq2 hq3);clear hTA hTW hXl hXN
    go_region_held3 (fun w'=>w'.cell? ⟨q2,0,none⟩=some (.slice A X.length c)∧w'.cell? ⟨q,0,none⟩=some (.slice B n d))
     (first
      |exact⟨(f5.cell hq2l (fun h=>h)).trans HC.out.1,(f5.cell hq3l (fun h=>h)).trans HC.out.2⟩
      |exact⟨(f4.cell hq2l (fun h=>h)).trans HC.out.1,(f4.cell hq3l (fun h=>h)).trans HC.out.2⟩
      |exact⟨HC.out.1,HC.out.2⟩)
     (first
      |(go_at_call 9;refine(HREF.out _ (Fr.drew (Fr.refl _ _))).mono ?_;rintro e w4 ⟨B4,d4,rfl,T4,g4⟩;have f4:Fr (fun _=>False) W2 w4:=(Fr.drew (Fr.refl _ _)).trans g4)
      |(go_at_call 8;refine(HSAME.out _ _ _ _ f4 T4).mono ?_;rintro e w5 ⟨rfl,g5⟩;have f5:Fr (fun _=>False) W2 w5:=f4.trans g5))
    have hq5:=(f5.cell hq2l (fun h=>h)).trans HC.out.1;have L5:=hide (L3.out.same f5);have hb5:wr.heap.size≤w5.heap.size:=Nat.le_trans hbw f5.size;go_wp2_with (go_at_call 10;refine(zqs L5.out hb5).mono ?_;rintro e w6 ⟨rfl,f6⟩);go_roundw
    case rel=>exact⟨t+1,by go_num,by omega,hide (((F3.out.trans f5)).then_ f6 (fun k k1 k2=>by have:=hJ.out.size;omega))⟩
    case measure=>simp[Go.RowKit.intOf];omega
  · obtain rfl:t=2:=by omega
    go_wp2_with (go_at_call 5;refine(zdm _ (HST.out _ (FW.out.trans hJ.out))).mono ?_;rintro e w5 ⟨rfl,f5⟩)
    go_returns;exact⟨rfl,(FW.out.trans hJ.out).trans f5⟩
end Go.Proofs.YtnlacmnoocigiaaGreatDoor
