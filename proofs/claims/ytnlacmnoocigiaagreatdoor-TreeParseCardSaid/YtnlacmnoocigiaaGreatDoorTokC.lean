/- token: the cutter's attr, walked. -/
import Derived.Test.YtnlacmnoocigiaaGreatDoorTokAb
import Derived.BigRegion
namespace Go.Proofs.YtnlacmnoocigiaaGreatDoor
open Go.RowKit Go.Lib
attribute [local go_sem ↓] Go.wp_at_zero Go.wp_at_succ
set_option maxRecDepth 100000 in
set_option maxHeartbeats 4000000 in
theorem zkb (b n:Nat)(r:ByteArray)(w:World)(h:CutAt w b n r)(hst:St w)(hfree:Free b):
 Calls Tryz.prog 106 #[.pointer (some ⟨b,0,none⟩)] w fun e w'=>AttrPost b n r.data.toList w e w':=by
 have hbl:=z1c r.data.toList;have hl:r.data.toList.length=r.size:=rfl;have HB:=hide h.lt;have H:=hide h;obtain⟨nm,hnm⟩:∃nm:ByteArray,(⟨(r.data.toList.take (z03 r.data.toList)).toArray⟩:ByteArray)=nm:=⟨_,rfl⟩;obtain⟨r1,hr1⟩:∃r1:ByteArray,(⟨(r.data.toList.drop (z03 r.data.toList)).toArray⟩:ByteArray)=r1:=⟨_,rfl⟩;have hw:=fun W hW=>zen b n r W hW;rw[hnm,hr1] at hw;have HW:=hide hw;have h1l:r1.data.toList=r.data.toList.drop (z03 r.data.toList):=by rw[←hr1]
 have hs:=fun W hW=>z7g b n r1 W hW;obtain⟨s1,hs1⟩:∃s1,decide (0<nB r1.data.toList)=s1:=⟨_,rfl⟩;obtain⟨r2,hr2⟩:∃r2:ByteArray,(⟨(r1.data.toList.drop (nB r1.data.toList)).toArray⟩:ByteArray)=r2:=⟨_,rfl⟩;rw[hs1,hr2] at hs;have HS:=hide hs;have h2l:r2.data.toList=z4t r.data.toList:=by rw[←hr2,h1l];rfl
 have he:=fun W hW=>z84 b n r2 ⟨#[61]⟩ W hW;obtain⟨r3,hr3⟩:∃r3:ByteArray,(⟨(trimPrefix r2.data.toList (⟨#[61]⟩:ByteArray).data.toList).toArray⟩:ByteArray)=r3:=⟨_,rfl⟩;rw[hr3,show (⟨#[61]⟩:ByteArray).data.toList=[61] from rfl,h2l] at he;have h3l:r3.data.toList=trimPrefix (z4t r.data.toList) [61]:=by rw[←hr3,h2l]
 have HPO:=hide (fun(rr x y:ByteArray) (z:Int) (hno:z1p r.data.toList=none) (w':World) (hc:CutAt w' b n rr) (hf:Fr (fun k=>k=b) w w')=>AttrPost.no (x:=x) (y:=y) (z:=z) hno hc hf);clear hr1 hs1 hr2 hr3 hw hs h;rcases zbr r.data.toList with ⟨hk,hno⟩|⟨hk,hp,hno⟩|⟨hk,hp,hm,hno⟩|⟨q,l5,hk,hp,hm,hcase⟩
 · have hnm0:nm=⟨#[]⟩:=by rw[←hnm,hk];rfl
   subst hnm0;have HN:=hide hno;clear hnm hbl hl hno hk h1l h2l h3l he;go_enter Tryz.func106,Tryz.ntmps106
   go_wp2_with (first
    |(go_at_call 104;refine(HW.out _ (H.out.same (Fr.alloc (Fr.refl _ _) _))).mono ?_;rintro e w1 ⟨rfl,c1,f1⟩)
    |(go_at_call 105;refine(HS.out _ (c1.same (Fr.alloc (Fr.refl _ _) _))).mono ?_;rintro e w2 ⟨rfl,c2,f2⟩;have C2:=hide c2;have T2:=hide (TwoB.start HB.out f1 f2);have G2:=hide (z64 f1 f2);have L1:=hide (z4z f1);obtain⟨p0,p1,p2,p3,p4,p5,p6,p7,p8,p9,n1,n2,n3,n4⟩:=T2.out.facts))
   obtain⟨W,hW,a0,a1,a2,fW⟩:=T2.out.store3 (.string ⟨#[]⟩) (.string ⟨#[]⟩) (.int .i64 0);rw[hW];refine bodyPost_ret (v:=.tuple #[.agg #[.string ⟨#[]⟩,.string ⟨#[]⟩,.int .i64 0],.bool false]) (by simp[results,Tryz.results106,go_sem,a0,a1,a2]) rfl ?_;exact HPO.out _ _ _ _ HN.out _ (C2.out.fr fW n1) (G2.out.then_ fW (fun k h1 h2=>by omega))
 · have HN:=hide hno;have hnm1:0<nm.size:=by rw[←hnm,z1j,List.length_take];omega
   obtain⟨hE,hE2⟩:=z3k hnm1;rw[hp] at he;have HE:=hide he;clear hnm hbl hl hno hk h1l h2l h3l he hp hnm1;go_enter Tryz.func106,Tryz.ntmps106
   go_wp2_with (first
    |(go_at_call 104;refine(HW.out _ (H.out.same (Fr.alloc (Fr.refl _ _) _))).mono ?_;rintro e w1 ⟨rfl,c1,f1⟩)
    |(go_at_call 105;refine(HS.out _ (c1.same (Fr.alloc (Fr.refl _ _) _))).mono ?_;rintro e w2 ⟨rfl,c2,f2⟩;have C2:=hide c2;have T2:=hide (TwoB.start HB.out f1 f2);have G2:=hide (z64 f1 f2);have L1:=hide (z4z f1);obtain⟨p0,p1,p2,p3,p4,p5,p6,p7,p8,p9,n1,n2,n3,n4⟩:=T2.out.facts)
    |(go_at_call 103;refine(HE.out _ C2.out).mono ?_;rintro e w3 ⟨rfl,c3,f3⟩;have C3:=hide c3;have T3:=hide (T2.out.fr f3);have G3:=hide (G2.out.trans f3);obtain⟨q0,q1,q2,q3,q4,q5,q6,q7,q8,q9, -⟩:=T3.out.facts))
   obtain⟨W,hW,a0,a1,a2,fW⟩:=T3.out.store3 (.string nm) (.string ⟨#[]⟩) (.int .i64 0);rw[hW];refine bodyPost_ret (v:=.tuple #[.agg #[.string nm,.string ⟨#[]⟩,.int .i64 0],.bool false]) (by simp[results,Tryz.results106,go_sem,a0,a1,a2]) rfl ?_;exact HPO.out _ _ _ _ HN.out _ (C3.out.fr fW n1) (G3.out.then_ fW (fun k h1 h2=>by omega))
 · have HN:=hide hno;have hnm1:0<nm.size:=by rw[←hnm,z1j,List.length_take];omega
   obtain⟨hE,hE2⟩:=z3k hnm1;rw[hp] at he;have HE:=hide he;have h3m:r3.data.toList=(z4t r.data.toList).drop 1:=by rw[h3l];unfold trimPrefix;rw[if_pos hp];rfl
   have ht:=fun W hW=>z7g b n r3 W hW;obtain⟨s3,hs3⟩:∃s3,decide (0<nB r3.data.toList)=s3:=⟨_,rfl⟩;obtain⟨r4,hr4⟩:∃r4:ByteArray,(⟨(r3.data.toList.drop (nB r3.data.toList)).toArray⟩:ByteArray)=r4:=⟨_,rfl⟩;rw[hs3,hr4] at ht;have HT:=hide ht;have h4l:r4.data.toList=z2s r.data.toList:=by rw[←hr4,h3m];rfl
   obtain rfl:r4=⟨#[]⟩:=by
    cases r4 with
    |mk d=>congr 1;exact Array.toList_inj.1 (h4l.trans hm)
   clear hnm hbl hl hno hk h1l h2l h3l he hp hnm1 hm h3m ht hs3 hr4 h4l;go_enter Tryz.func106,Tryz.ntmps106
   go_wp2_with (first
    |(go_at_call 104;refine(HW.out _ (H.out.same (Fr.alloc (Fr.refl _ _) _))).mono ?_;rintro e w1 ⟨rfl,c1,f1⟩)
    |(go_at_call 103;refine(HE.out _ C2.out).mono ?_;rintro e w3 ⟨rfl,c3,f3⟩;have C3:=hide c3;have T3:=hide (T2.out.fr f3);have G3:=hide (G2.out.trans f3);obtain⟨q0,q1,q2,q3,q4,q5,q6,q7,q8,q9, -⟩:=T3.out.facts)
    |(go_at_call 105;refine(HT.out _ C3.out).mono ?_;rintro e w4 ⟨rfl,c4,f4⟩;have C4:=hide c4;have T4:=hide (T3.out.fr f4);have G4:=hide (G3.out.trans f4);obtain⟨u0,u1,u2,u3,u4,u5,u6,u7,u8,u9, -⟩:=T4.out.facts;have k4:=c4.c1;have y4:=c4.fz)
    |(go_at_call 105;refine(HS.out _ (c1.same (Fr.alloc (Fr.refl _ _) _))).mono ?_;rintro e w2 ⟨rfl,c2,f2⟩;have C2:=hide c2;have T2:=hide (TwoB.start HB.out f1 f2);have G2:=hide (z64 f1 f2);have L1:=hide (z4z f1);obtain⟨p0,p1,p2,p3,p4,p5,p6,p7,p8,p9,n1,n2,n3,n4⟩:=T2.out.facts))
   obtain⟨W,hW,a0,a1,a2,fW⟩:=T4.out.store3 (.string nm) (.string ⟨#[]⟩) (.int .i64 0);rw[hW];refine bodyPost_ret (v:=.tuple #[.agg #[.string nm,.string ⟨#[]⟩,.int .i64 0],.bool false]) (by simp[results,Tryz.results106,go_sem,a0,a1,a2]) rfl ?_;exact HPO.out _ _ _ _ HN.out _ (C4.out.fr fW n1) (G4.out.then_ fW (fun k h1 h2=>by omega))
 · obtain⟨ml,hml⟩:=hst.ml;have HM:=hide (fun W (f:Fr (fun k=>k=b) w W)=>show W.cell? ⟨1,0,none⟩=some (.int .i64 ml) by rw[f.cell (World.block_lt_of_cell? w _ hml) (fun e=>hfree.2.1 e.symm)];exact hml);have hnm1:0<nm.size:=by rw[←hnm,z1j,List.length_take];omega
   obtain⟨hE,hE2⟩:=z3k hnm1;rw[hp] at he;have HE:=hide he;have h3m:r3.data.toList=(z4t r.data.toList).drop 1:=by rw[h3l];unfold trimPrefix;rw[if_pos hp];rfl
   have ht:=fun W hW=>z7g b n r3 W hW;obtain⟨s3,hs3⟩:∃s3,decide (0<nB r3.data.toList)=s3:=⟨_,rfl⟩;obtain⟨r4,hr4⟩:∃r4:ByteArray,(⟨(r3.data.toList.drop (nB r3.data.toList)).toArray⟩:ByteArray)=r4:=⟨_,rfl⟩;rw[hs3,hr4] at ht;have HT:=hide ht;have h4l:r4.data.toList=z2s r.data.toList:=by rw[←hr4,h3m];rfl
   rw[hm] at h4l;have h4z:r4.size=l5.length+1:=by have:r4.data.toList.length=r4.size:=rfl;rw[←this,h4l];rfl
   have h40:0<r4.size:=by omega
   obtain⟨jE,jE2⟩:=z3k h40;have hq0:r4[0]'h40=q:=z8t h40 (by rw[h4l];rfl);have hi0:(0:Int)<r4.size:=by omega
   have HR:=hide hl;clear hml hbl hl hk h1l h2l h3l he hp hnm1 h3m ht hs3 hr4 hst;rcases hcase with ⟨c1,hno⟩|⟨c1,hcase⟩
   · have HN:=hide hno;have b34:(((r4[0]'h40).toNat:Int) !=34)=true:=by rw[hq0,bne_iff_ne];intro e;exact c1 (.inl (UInt8.toNat_inj.1 (by show _=34;omega)))
     have b39:(((r4[0]'h40).toNat:Int) !=39)=true:=by rw[hq0,bne_iff_ne];intro e;exact c1 (.inr (UInt8.toNat_inj.1 (by show _=39;omega)))
     clear hno c1 hm h4l h4z hq0 hnm;go_enter Tryz.func106,Tryz.ntmps106
     go_wp2_with (first
      |(go_at_call 104;refine(HW.out _ (H.out.same (Fr.alloc (Fr.refl _ _) _))).mono ?_;rintro e w1 ⟨rfl,c1,f1⟩)
      |(go_at_call 103;refine(HE.out _ C2.out).mono ?_;rintro e w3 ⟨rfl,c3,f3⟩;have C3:=hide c3;have T3:=hide (T2.out.fr f3);have G3:=hide (G2.out.trans f3);obtain⟨q0,q1,q2,q3,q4,q5,q6,q7,q8,q9, -⟩:=T3.out.facts)
      |(go_at_call 105;refine(HT.out _ C3.out).mono ?_;rintro e w4 ⟨rfl,c4,f4⟩;have C4:=hide c4;have T4:=hide (T3.out.fr f4);have G4:=hide (G3.out.trans f4);obtain⟨u0,u1,u2,u3,u4,u5,u6,u7,u8,u9, -⟩:=T4.out.facts;have k4:=c4.c1;have y4:=c4.fz)
      |(go_at_call 105;refine(HS.out _ (c1.same (Fr.alloc (Fr.refl _ _) _))).mono ?_;rintro e w2 ⟨rfl,c2,f2⟩;have C2:=hide c2;have T2:=hide (TwoB.start HB.out f1 f2);have G2:=hide (z64 f1 f2);have L1:=hide (z4z f1);obtain⟨p0,p1,p2,p3,p4,p5,p6,p7,p8,p9,n1,n2,n3,n4⟩:=T2.out.facts))
     obtain⟨W,hW,a0,a1,a2,fW⟩:=T4.out.store3 (.string nm) (.string ⟨#[]⟩) (.int .i64 0);rw[hW];refine bodyPost_ret (v:=.tuple #[.agg #[.string nm,.string ⟨#[]⟩,.int .i64 0],.bool false]) (by simp[results,Tryz.results106,go_sem,a0,a1,a2]) rfl ?_;exact HPO.out _ _ _ _ HN.out _ (C4.out.fr fW n1) (G4.out.then_ fW (fun k h1 h2=>by omega))
   · obtain⟨r5,hr5⟩:∃r5:ByteArray,r5=⟨l5.toArray⟩:=⟨_,rfl⟩;have h5l:r5.data.toList=l5:=by rw[hr5]
     have h5z:r5.size=l5.length:=by rw[hr5,z1j]
     have hrn:=H.out.le;have hn6:=H.out.n_le;have hml5:r.data.toList.length=(z2s r.data.toList).length+z2x r.data.toList∨(z2s r.data.toList).length=0:=by rw[z7h,List.length_drop];omega
     have h5r:r5.size+1≤r.size:=by rw[hm,List.length_cons] at hml5;rw[h5z];have:r.data.toList.length=r.size:=rfl;omega
     have HZ5:=hide (show r5.size≤n by omega);have hslm:∀W:World,(Instr.slice 9 (.string r4) none (some (.int .i64 1)) none).run Tryz.prog W=.ok (.string ⟨#[q]⟩) W:=fun W=>by rw[run_slice_string_h (P:=Tryz.prog) W 9 r4 Tryz.underlying9 .i64 1 (by omega) (by omega)];congr 2;apply ByteArray.ext;apply Array.toList_inj.1;rw[z08,h4l];rfl
     have hsl5:∀W:World,(Instr.slice 9 (.string r4) (some (.int .i64 1)) none none).run Tryz.prog W=.ok (.string r5) W:=fun W=>by rw[run_slice_string_l (P:=Tryz.prog) W 9 r4 Tryz.underlying9 .i64 1 (by omega) (by omega)];congr 2;apply ByteArray.ext;apply Array.toList_inj.1;rw[z08,List.take_of_length_le (by rw[List.length_drop,h4l,List.length_cons];simp;omega),h4l,h5l];rfl
     obtain⟨pl,hpl⟩:∃pl:Int,((n - r5.size:Nat):Int)=pl:=⟨_,rfl⟩;have ha:=fun W hW=>zui b n r5 W hW;rw[hpl] at ha;have HA:=hide ha;have hc:=fun W hW=>Tryz.strings_Cut r5 ⟨#[q]⟩ ml W (by omega) hW;rw[h5l,show (⟨#[q]⟩:ByteArray).data.toList=[q] from rfl] at hc;have HPL:=hide hpl;have HQ:=hide hq0;have H5:=hide (And.intro h5l (And.intro h5z h5r))
     have b12:∃x y,(((r4[0]'h40).toNat:Int) !=34)=x∧(((r4[0]'h40).toNat:Int) !=39)=y∧((x=false∧y=true)∨(x=true∧y=false)):=by
      rw[hq0];rcases c1 with rfl|rfl
      · exact⟨false,true,by decide,by decide,.inl ⟨rfl,rfl⟩⟩
      · exact⟨true,false,by decide,by decide,.inr ⟨rfl,rfl⟩⟩
     clear hr5 h5l h5z hrn hn6 hml5 h5r ha hpl hq0 h4l h4z hm;obtain⟨bx,by_,b34,b39,hb12⟩:=b12;rcases hcase with ⟨c2,hno⟩|⟨c2,hcase⟩
     · have HN:=hide hno;clear hnm;rw[zk1 c2] at hc;have e5:(⟨l5.toArray⟩:ByteArray)=r5:=by apply ByteArray.ext;apply Array.toList_inj.1;exact H5.out.1.symm
       rw[e5] at hc;have HC:=hide hc;clear hno c1 c2 hc e5;rcases hb12 with ⟨rfl,rfl⟩|⟨rfl,rfl⟩
       all_goals
        go_enter Tryz.func106,Tryz.ntmps106
        go_wp2_with (first
         |(go_at_call 104;refine(HW.out _ (H.out.same (Fr.alloc (Fr.refl _ _) _))).mono ?_;rintro e w1 ⟨rfl,c1,f1⟩)
         |(go_at_call 103;refine(HE.out _ C2.out).mono ?_;rintro e w3 ⟨rfl,c3,f3⟩;have C3:=hide c3;have T3:=hide (T2.out.fr f3);have G3:=hide (G2.out.trans f3);obtain⟨q0,q1,q2,q3,q4,q5,q6,q7,q8,q9, -⟩:=T3.out.facts)
         |(go_at_call 105;refine(HT.out _ C3.out).mono ?_;rintro e w4 ⟨rfl,c4,f4⟩;have C4:=hide c4;have T4:=hide (T3.out.fr f4);have G4:=hide (G3.out.trans f4);obtain⟨u0,u1,u2,u3,u4,u5,u6,u7,u8,u9, -⟩:=T4.out.facts;have k4:=c4.c1;have y4:=c4.fz)
         |(go_at_call 105;refine(HS.out _ (c1.same (Fr.alloc (Fr.refl _ _) _))).mono ?_;rintro e w2 ⟨rfl,c2,f2⟩;have C2:=hide c2;have T2:=hide (TwoB.start HB.out f1 f2);have G2:=hide (z64 f1 f2);have L1:=hide (z4z f1);obtain⟨p0,p1,p2,p3,p4,p5,p6,p7,p8,p9,n1,n2,n3,n4⟩:=T2.out.facts)
         |(go_at_call 75;refine(HA.out _ (C4.out.set HZ5.out)).mono ?_;rintro e w5 ⟨rfl,f5⟩;have C5:=hide ((C4.out.set HZ5.out).same f5);have T5:=hide ((T4.out.fr (Fr.set_b _ _ _ _)).fr f5.into);have G5:=hide ((G4.out.trans (Fr.set_b _ _ _ _)).trans f5.into);obtain⟨v0,v1,v2,v3,v4,v5,v6,v7,v8,v9, -⟩:=T5.out.facts;have k5:=C5.out.c1;have y5:=C5.out.fz)
         |(go_at_call 74;refine(HC.out _ (HM.out _ (G5.out.then_ (Fr.set_b _ _ _ _) (fun k h1 h2=>absurd h1 (by have:=L1.out;omega))))).mono ?_;rintro e w6 ⟨rfl,n6,rfl⟩))
        obtain⟨W,hW,t6,c6,F6⟩:=T5.out.fin C5.out pl n6 r5 ⟨#[]⟩ (Nat.zero_le _);rw[hW];have T6:=hide t6;have C6:=hide c6;have G6:=hide (G5.out.then_ F6 (fun k h1 h2=>h2.elim (fun e=>e) (fun e=>absurd h1 (by have:=L1.out;omega))));obtain⟨x0,x1,x2,x3,x4,x5,x6,x7,x8,x9, -⟩:=T6.out.facts;clear t6 c6 F6 hW;go_region;obtain⟨W2,hW2,a0,a1,a2,fW⟩:=T6.out.store3 (.string nm) (.string r5) (.int .i64 pl);rw[hW2];go_wp2_with fail;refine bodyPost_ret (v:=.tuple #[.agg #[.string nm,.string r5,.int .i64 pl],.bool false]) (by simp[results,Tryz.results106,go_sem,a0,a1,a2]) rfl ?_;exact HPO.out _ _ _ _ HN.out _ ((C6.out.fr fW n1).same (Fr.drew (Fr.refl _ _))) (Fr.drew (G6.out.then_ fW (fun k h1 h2=>by omega)))
     · rw[zp6 c2] at hc;obtain⟨vv,hvv⟩:∃vv:ByteArray,(⟨(l5.takeWhile (· !=q)).toArray⟩:ByteArray)=vv:=⟨_,rfl⟩;obtain⟨r6,hr6⟩:∃r6:ByteArray,(⟨(l5.drop ((l5.takeWhile (· !=q)).length+1)).toArray⟩:ByteArray)=r6:=⟨_,rfl⟩;have hvl:vv.data.toList=l5.takeWhile (· !=q):=by rw[←hvv]
       have h6z:r6.size≤n:=by have h1:=HZ5.out;rw[H5.out.2.1] at h1;rw[←hr6,z1j,List.length_drop];omega
       rw[hvv,hr6] at hc;have HC:=hide hc;have HZ6:=hide h6z;have hk:=fun W=>Tryz.strings_Contains_one vv 60 W;rw[z8w,hvl] at hk;rcases hcase with ⟨c3,hno⟩|⟨c3,k,hyes,hkd⟩
       · have HN:=hide hno;rw[decide_eq_true c3] at hk;have HK:=hide hk;clear hnm hno c1 c2 c3 hc hk hvv hr6 hvl h6z;rcases hb12 with ⟨rfl,rfl⟩|⟨rfl,rfl⟩
         all_goals
          go_enter Tryz.func106,Tryz.ntmps106
          go_wp2_with (first
           |(go_at_call 104;refine(HW.out _ (H.out.same (Fr.alloc (Fr.refl _ _) _))).mono ?_;rintro e w1 ⟨rfl,c1,f1⟩)
           |(go_at_call 103;refine(HE.out _ C2.out).mono ?_;rintro e w3 ⟨rfl,c3,f3⟩;have C3:=hide c3;have T3:=hide (T2.out.fr f3);have G3:=hide (G2.out.trans f3);obtain⟨q0,q1,q2,q3,q4,q5,q6,q7,q8,q9, -⟩:=T3.out.facts)
           |(go_at_call 105;refine(HT.out _ C3.out).mono ?_;rintro e w4 ⟨rfl,c4,f4⟩;have C4:=hide c4;have T4:=hide (T3.out.fr f4);have G4:=hide (G3.out.trans f4);obtain⟨u0,u1,u2,u3,u4,u5,u6,u7,u8,u9, -⟩:=T4.out.facts;have k4:=c4.c1;have y4:=c4.fz)
           |(go_at_call 105;refine(HS.out _ (c1.same (Fr.alloc (Fr.refl _ _) _))).mono ?_;rintro e w2 ⟨rfl,c2,f2⟩;have C2:=hide c2;have T2:=hide (TwoB.start HB.out f1 f2);have G2:=hide (z64 f1 f2);have L1:=hide (z4z f1);obtain⟨p0,p1,p2,p3,p4,p5,p6,p7,p8,p9,n1,n2,n3,n4⟩:=T2.out.facts)
           |(go_at_call 75;refine(HA.out _ (C4.out.set HZ5.out)).mono ?_;rintro e w5 ⟨rfl,f5⟩;have C5:=hide ((C4.out.set HZ5.out).same f5);have T5:=hide ((T4.out.fr (Fr.set_b _ _ _ _)).fr f5.into);have G5:=hide ((G4.out.trans (Fr.set_b _ _ _ _)).trans f5.into);obtain⟨v0,v1,v2,v3,v4,v5,v6,v7,v8,v9, -⟩:=T5.out.facts;have k5:=C5.out.c1;have y5:=C5.out.fz)
           |(go_at_call 74;refine(HC.out _ (HM.out _ (G5.out.then_ (Fr.set_b _ _ _ _) (fun k h1 h2=>absurd h1 (by have:=L1.out;omega))))).mono ?_;rintro e w6 ⟨rfl,n6,rfl⟩))
          obtain⟨W,hW,t6,c6,F6⟩:=T5.out.fin C5.out pl n6 vv r6 HZ6.out;rw[hW];have T6:=hide t6;have C6:=hide c6;have G6:=hide (G5.out.then_ F6 (fun k h1 h2=>h2.elim (fun e=>e) (fun e=>absurd h1 (by have:=L1.out;omega))));obtain⟨x0,x1,x2,x3,x4,x5,x6,x7,x8,x9, -⟩:=T6.out.facts;clear t6 c6 F6 hW
          go_region_with (go_at_call 138;refine(HK.out _).mono ?_;rintro e w7 ⟨rfl,rfl⟩)
          all_goals
           obtain⟨W2,hW2,a0,a1,a2,fW⟩:=T6.out.store3 (.string nm) (.string vv) (.int .i64 pl);rw[hW2];go_wp2_with fail;refine bodyPost_ret (v:=.tuple #[.agg #[.string nm,.string vv,.int .i64 pl],.bool false]) (by simp[results,Tryz.results106,go_sem,a0,a1,a2]) rfl ?_;exact HPO.out _ _ _ _ HN.out _ ((C6.out.fr fW n1).same (Fr.drew (Fr.refl _ _))) (Fr.drew (G6.out.then_ fW (fun k h1 h2=>by omega)))
       · have HY:=hide hyes;rw[decide_eq_false c3] at hk;have HK:=hide hk;have HKD:=hide hkd;have HX:=hide (And.intro hnm (And.intro hvv hr6));clear hyes hkd c1 c2 c3 hc hk hvv hr6 hvl h6z hnm;rcases hb12 with ⟨rfl,rfl⟩|⟨rfl,rfl⟩
         all_goals
          go_enter Tryz.func106,Tryz.ntmps106
          go_wp2_with (first
           |(go_at_call 104;refine(HW.out _ (H.out.same (Fr.alloc (Fr.refl _ _) _))).mono ?_;rintro e w1 ⟨rfl,c1,f1⟩)
           |(go_at_call 103;refine(HE.out _ C2.out).mono ?_;rintro e w3 ⟨rfl,c3,f3⟩;have C3:=hide c3;have T3:=hide (T2.out.fr f3);have G3:=hide (G2.out.trans f3);obtain⟨q0,q1,q2,q3,q4,q5,q6,q7,q8,q9, -⟩:=T3.out.facts)
           |(go_at_call 105;refine(HT.out _ C3.out).mono ?_;rintro e w4 ⟨rfl,c4,f4⟩;have C4:=hide c4;have T4:=hide (T3.out.fr f4);have G4:=hide (G3.out.trans f4);obtain⟨u0,u1,u2,u3,u4,u5,u6,u7,u8,u9, -⟩:=T4.out.facts;have k4:=c4.c1;have y4:=c4.fz)
           |(go_at_call 105;refine(HS.out _ (c1.same (Fr.alloc (Fr.refl _ _) _))).mono ?_;rintro e w2 ⟨rfl,c2,f2⟩;have C2:=hide c2;have T2:=hide (TwoB.start HB.out f1 f2);have G2:=hide (z64 f1 f2);have L1:=hide (z4z f1);obtain⟨p0,p1,p2,p3,p4,p5,p6,p7,p8,p9,n1,n2,n3,n4⟩:=T2.out.facts)
           |(go_at_call 75;refine(HA.out _ (C4.out.set HZ5.out)).mono ?_;rintro e w5 ⟨rfl,f5⟩;have C5:=hide ((C4.out.set HZ5.out).same f5);have T5:=hide ((T4.out.fr (Fr.set_b _ _ _ _)).fr f5.into);have G5:=hide ((G4.out.trans (Fr.set_b _ _ _ _)).trans f5.into);obtain⟨v0,v1,v2,v3,v4,v5,v6,v7,v8,v9, -⟩:=T5.out.facts;have k5:=C5.out.c1;have y5:=C5.out.fz)
           |(go_at_call 74;refine(HC.out _ (HM.out _ (G5.out.then_ (Fr.set_b _ _ _ _) (fun k h1 h2=>absurd h1 (by have:=L1.out;omega))))).mono ?_;rintro e w6 ⟨rfl,n6,rfl⟩))
          obtain⟨W,hW,t6,c6,F6⟩:=T5.out.fin C5.out pl n6 vv r6 HZ6.out;rw[hW];have T6:=hide t6;have C6:=hide c6;have G6:=hide (G5.out.then_ F6 (fun k h1 h2=>h2.elim (fun e=>e) (fun e=>absurd h1 (by have:=L1.out;omega))));obtain⟨x0,x1,x2,x3,x4,x5,x6,x7,x8,x9, -⟩:=T6.out.facts;clear t6 c6 F6 hW
          go_region_with (go_at_call 138;refine(HK.out _).mono ?_;rintro e w7 ⟨rfl,rfl⟩)
          all_goals
           obtain⟨W2,hW2,a0,a1,a2,fW⟩:=T6.out.store3 (.string nm) (.string vv) (.int .i64 pl);rw[hW2];go_wp2_with fail;refine bodyPost_ret (v:=.tuple #[.agg #[.string nm,.string vv,.int .i64 pl],.bool true]) (by simp[results,Tryz.results106,go_sem,a0,a1,a2]) rfl ?_;exact AttrPost.yes HY.out ((C6.out.fr fW n1).same (Fr.drew (Fr.refl _ _))) (Fr.drew (G6.out.then_ fW (fun k h1 h2=>by omega))) (by rw[←HX.out.2.2,HKD.out]) HX.out.1.symm HX.out.2.1.symm (by have h5:=H5.out.2.2;have hle:=H.out.le;have hln:=HR.out;rw[←HPL.out];congr 1;show n - r5.size=n - r.data.toList.length+(r.data.toList.length - l5.length);rw[H5.out.2.1] at h5⊢;omega)
end Go.Proofs.YtnlacmnoocigiaaGreatDoor
