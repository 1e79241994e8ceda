/- token: tag, Open and Empty. -/
import Derived.Test.YtnlacmnoocigiaaGreatDoorTokEg
namespace Go.Proofs.YtnlacmnoocigiaaGreatDoor
open Go.RowKit Go.Lib
attribute [local go_sem ↓] Go.wp_at_zero Go.wp_at_succ
theorem zep {P:Program}{a:Act}{w:World}{Q:Exit→Act→World→Prop}{c rest:Code}(l:Nat)(J:Act→World→Prop)(μ:Act→World→Nat)(hf:findLabel c l=some (Code.skip.seq rest))
 (pass:∀a w,J a w→rest.wp P (Exit.jump l (fun a' w'=>J a' w'∧μ a' w'<μ a w) Q) a w)
 (first:(∀a w,J a w→rest.wp P (Exit.jump l J Q) a w)→c.wp P (Exit.jump l J Q) a w):(Code.scope c).wp P Q a w:=by
 refine wp_scope_jumps l J μ hf (first fun a w h=> ?_) (fun a w h=>wp_seq (wp_skip (pass a w h)));refine Code.wp_mono ?_ (pass a w h);intro e a' w' hq;cases e<;>first|exact hq|exact⟨hq.1,hq.2.1⟩
def lfoT (b:Nat)(w:World):Nat:=match w.cell? ⟨b,1,none⟩ with
 |some (.string s)=>s.size
 |_=>0
theorem z5n {w:World}{b n:Nat}{r:ByteArray}(h:CutAt w b n r):lfoT b w=r.size:=by unfold lfoT;rw[h.c1]
theorem zp9 (b n:Nat)(r:ByteArray)(w:World)(h:CutAt w b n r)(hst:St w)(hfree:Free b)(ha:z1p r.data.toList=none):
 Calls Tryz.prog 106 #[.pointer (some ⟨b,0,none⟩)] w fun e w'=>∃(r' x y:ByteArray) (z:Int),e=.returned (.tuple #[.agg #[.string x,.string y,.int .i64 z],.bool false])∧CutAt w' b n r'∧Fr (fun k=>k=b) w w':=
 (zkb b n r w h hst hfree).mono fun e w' hp=>by obtain⟨r',hc,hf,hm⟩:=hp;rw[ha] at hm;obtain⟨x,y,z,rfl⟩:=hm;exact⟨r',x,y,z,rfl,hc,hf⟩
theorem zpa (b n:Nat)(r:ByteArray)(w:World)(h:CutAt w b n r)(hst:St w)(hfree:Free b){a:RawA}{k:Nat}(ha:z1p r.data.toList=some (a,k)):
 Calls Tryz.prog 106 #[.pointer (some ⟨b,0,none⟩)] w fun e w'=>e=.returned (.tuple #[.agg #[.string ⟨a.name.toArray⟩,.string ⟨a.value.toArray⟩,.int .i64 ((n - r.data.toList.length+a.off:Nat):Int)],.bool true])∧CutAt w' b n ⟨(r.data.toList.drop k).toArray⟩∧Fr (fun k=>k=b) w w':=
 (zkb b n r w h hst hfree).mono fun e w' hp=>by obtain⟨r',hc,hf,hm⟩:=hp;rw[ha] at hm;obtain⟨rfl,rfl⟩:=hm;exact⟨rfl,hc,hf⟩
theorem zpb (w:World)(o:Obj)(x:RawV)(E:TypeId):Rd rawC ((w.alloc o).alloc (.cells #[.string x.name,.string x.value,.int .i64 x.at_] E)) (fun k=>k=w.heap.size+1) (.slice (some ⟨w.heap.size+1,0,none⟩) 1 1) [x]:=by have:=zxl (w.alloc o) x E 1 (Nat.le_refl _) (by simp[maxLen]);simpa using this
theorem zwd {c:UInt8}{t:List UInt8}(h:z0z c=false):nB (c::t)=0:=by rw[zwf,if_neg (by rw[h];decide)]
structure TagJ (b n tb:Nat)(l:List UInt8)(nn tx:ByteArray)(av:Value)(ta:Int)(R:Option (Nat×List RawA×Nat))(w w':World)(v:Value)(r':ByteArray)(acc:List RawA)(o:Option Nat):Prop where
 cut:CutAt w' b n r'
 tok:TokAt w' tb 1 nn av tx ta
 own:Own rawC w' 170 v o (acc.map (rawV (n - l.length)))
 new:∀k,o=some k→w.heap.size≤k∧k<w'.heap.size
 fr:Fr (fun k=>k=b∨k=tb) w w'
 res:z3v r'.data.toList (l.length - r'.size) acc=R
 suf:l.drop (l.length - r'.size)=r'.data.toList
 le:r'.size≤l.length
 many:acc.length≤l.length - r'.size
def TagF (b n tb:Nat)(l:List UInt8)(nn tx:ByteArray)(av:Value)(ta:Int)(R:Option (Nat×List RawA×Nat))(w:World)(a':Act)(w':World):Prop:=∃(u2 u3 u6 u7 u8 u9 u10 u11 u12 u13 u14 u15 u16 u17 u18 u19 u20 u21 u22 u23 u24 u25 u26 u27 u28 u29 u30 u31 u32 u33 u34 u35 u36 u37 u38 u39 u40 u41 u42 u43 u44 u45 u46 u47 u48 u49 u50 u51 u52 u53 u54 u55 u56 u57 u58 u59 u60 u61 u62 u63 u64 u65 u66 u67 u68 u69 u70 u71 u72 u73 u74 u75 u76 u77 u78 u79 u80 u81 u82 u83 u84 u85 u86 v:Value) (r':ByteArray) (acc:List RawA) (o:Option Nat),a'={tmps:= #[.pointer (some ⟨b,0,none⟩),.pointer (some ⟨tb,0,none⟩),u2,u3,v,.bool false,u6,u7,u8,u9,u10,u11,u12,u13,u14,u15,u16,u17,u18,u19,u20,u21,u22,u23,u24,u25,u26,u27,u28,u29,u30,u31,u32,u33,u34,u35,u36,u37,u38,u39,u40,u41,u42,u43,u44,u45,u46,u47,u48,u49,u50,u51,u52,u53,u54,u55,u56,u57,u58,u59,u60,u61,u62,u63,u64,u65,u66,u67,u68,u69,u70,u71,u72,u73,u74,u75,u76,u77,u78,u79,u80,u81,u82,u83,u84,u85,u86],defers:=[]}∧TagJ b n tb l nn tx av ta R w w' v r' acc o
theorem TagF.mk {b n tb:Nat}{l:List UInt8}{nn tx:ByteArray}{av:Value}{ta:Int}{R:Option (Nat×List RawA×Nat)}{w w':World}{u2 u3 u6 u7 u8 u9 u10 u11 u12 u13 u14 u15 u16 u17 u18 u19 u20 u21 u22 u23 u24 u25 u26 u27 u28 u29 u30 u31 u32 u33 u34 u35 u36 u37 u38 u39 u40 u41 u42 u43 u44 u45 u46 u47 u48 u49 u50 u51 u52 u53 u54 u55 u56 u57 u58 u59 u60 u61 u62 u63 u64 u65 u66 u67 u68 u69 u70 u71 u72 u73 u74 u75 u76 u77 u78 u79 u80 u81 u82 u83 u84 u85 u86 v:Value}{r':ByteArray}{acc:List RawA}{o:Option Nat}
 (h:TagJ b n tb l nn tx av ta R w w' v r' acc o):TagF b n tb l nn tx av ta R w {tmps:= #[.pointer (some ⟨b,0,none⟩),.pointer (some ⟨tb,0,none⟩),u2,u3,v,.bool false,u6,u7,u8,u9,u10,u11,u12,u13,u14,u15,u16,u17,u18,u19,u20,u21,u22,u23,u24,u25,u26,u27,u28,u29,u30,u31,u32,u33,u34,u35,u36,u37,u38,u39,u40,u41,u42,u43,u44,u45,u46,u47,u48,u49,u50,u51,u52,u53,u54,u55,u56,u57,u58,u59,u60,u61,u62,u63,u64,u65,u66,u67,u68,u69,u70,u71,u72,u73,u74,u75,u76,u77,u78,u79,u80,u81,u82,u83,u84,u85,u86],defers:=[]} w':=⟨u2,u3,u6,u7,u8,u9,u10,u11,u12,u13,u14,u15,u16,u17,u18,u19,u20,u21,u22,u23,u24,u25,u26,u27,u28,u29,u30,u31,u32,u33,u34,u35,u36,u37,u38,u39,u40,u41,u42,u43,u44,u45,u46,u47,u48,u49,u50,u51,u52,u53,u54,u55,u56,u57,u58,u59,u60,u61,u62,u63,u64,u65,u66,u67,u68,u69,u70,u71,u72,u73,u74,u75,u76,u77,u78,u79,u80,u81,u82,u83,u84,u85,u86,v,r',acc,o,rfl,h⟩
set_option maxRecDepth 100000 in
set_option maxHeartbeats 8000000 in
theorem zta (b n tb:Nat)(kd:Int)(r nm tx:ByteArray)(av:Value)(ta:Int)(w:World)(h:CutAt w b n r)(ht:TokAt w tb kd nm av tx ta)(hne:¬b=tb)(hst:St w)(hfree:Free b)(hfreet:Free tb)
 (h0:r.data.toList[0]? =some 60) (h47:r.data.toList[1]? ≠some 47):
 Calls Tryz.prog 76 #[.pointer (some ⟨b,0,none⟩),.pointer (some ⟨tb,0,none⟩)] w fun e w'=>TagPost b n tb r.data.toList av tx ta w e w':=by
 have hne':¬tb=b:=fun e=>hne e.symm;have hbt:=hide (And.intro h.lt ht.lt);have C0:=hide (h.fr (Fr.set_b w tb 0 (.int .u8 1)) hne);have T0:=hide (ht.kind_ 1);have F0:=hide ((Fr.set_b w tb 0 (.int .u8 1)).r (b:=b));obtain⟨x0,x1,x2,x3,x4,x5⟩:=ht.facts;have hn6:=h.n_le;have hle:=h.le;have hl:r.data.toList.length=r.size:=rfl
 have hp:hasPrefix r.data.toList [60,47]=false:=by
  cases hh:hasPrefix r.data.toList [60,47] with
  |false=>rfl
  |true=>exact absurd ((z2e _ _ _).1 hh).2 h47
 have hp1:hasPrefix r.data.toList [60]=true:=(z0g _ _).2 h0;have e1:=fun W hW=>z84 b n r ⟨#[60,47]⟩ W hW;rw[show (⟨#[60,47]⟩:ByteArray).data.toList=[60,47] from rfl,hp,show trimPrefix r.data.toList [60,47]=r.data.toList by unfold trimPrefix;rw[if_neg (by rw[hp];decide)],z5b] at e1;have HE1:=hide e1;have e2:=fun W hW=>z84 b n r ⟨#[60]⟩ W hW;rw[show (⟨#[60]⟩:ByteArray).data.toList=[60] from rfl,hp1,show trimPrefix r.data.toList [60]=r.data.toList.drop 1 by unfold trimPrefix;rw[if_pos hp1];rfl] at e2;obtain⟨r1,hr1⟩:∃r1:ByteArray,(⟨(r.data.toList.drop 1).toArray⟩:ByteArray)=r1:=⟨_,rfl⟩;have h1l:r1.data.toList=r.data.toList.drop 1:=by rw[←hr1]
 rw[hr1] at e2;have HE2:=hide e2;have wd:=fun W hW=>zen b n r1 W hW;obtain⟨nn,hnn⟩:∃nn:ByteArray,(⟨(r1.data.toList.take (z03 r1.data.toList)).toArray⟩:ByteArray)=nn:=⟨_,rfl⟩;obtain⟨r2,hr2⟩:∃r2:ByteArray,(⟨(r1.data.toList.drop (z03 r1.data.toList)).toArray⟩:ByteArray)=r2:=⟨_,rfl⟩;rw[hnn,hr2] at wd;have HW:=hide wd;have h2l:r2.data.toList=r.data.toList.drop (1+z03 (r.data.toList.drop 1)):=by rw[←hr2,h1l,List.drop_drop]
 have htag:=z9l r.data.toList;rw[if_neg h47] at htag;clear e1 e2 hr1 wd hr2 h ht hp hp1;by_cases hb0:z03 (r.data.toList.drop 1)=0
 · have hnn0:nn=⟨#[]⟩:=by rw[←hnn,h1l,hb0];rfl
   subst hnn0;rw[if_pos hb0] at htag;have HT:=hide htag;clear htag hb0 hnn h1l h2l h0 h47 hl;go_enter Tryz.func76,Tryz.ntmps76;go_wp2;refine wp_scope_straight ?_
   go_wp2_with (first
    |(go_at_call 103;refine(HE2.out _ c1).mono ?_;rintro e w2 ⟨rfl,c2,f2⟩;have t2:=t1.fr f2 hne')
    |(go_at_call 103;refine(HE1.out _ C0.out).mono ?_;rintro e w1 ⟨rfl,c1,f1⟩;have t1:=T0.out.fr f1 hne')
    |(go_at_call 104;refine(HW.out _ c2).mono ?_;rintro e w3 ⟨rfl,c3,f3⟩;have t3:=t2.fr f3 hne';obtain⟨y0,y1,y2,y3,y4,y5⟩:=t3.facts;have c4:=c3.fr (Fr.set_b w3 tb 1 (.string ⟨#[]⟩)) hne;have t4:=t3.name_ ⟨#[]⟩;have f4:=hide ((((F0.out.trans f1.l).trans f2.l).trans f3.l).trans (Fr.set_b w3 tb 1 (.string ⟨#[]⟩)).r);obtain⟨k0,k1,k2,k3,k4,k5⟩:=t4.facts))
   rw[Exit.noGoto_ret]
   go_ret2
   exact TagPost.no HT.out c4 t4 f4.out
 · have hnn1:0<nn.size:=by have hbl:=z1c (r.data.toList.drop 1);rw[←hnn,z1j,h1l,List.length_take];omega
   obtain⟨jE,jE2⟩:=z3k hnn1;obtain⟨R,hR⟩:∃R,z3v (r.data.toList.drop (1+z03 (r.data.toList.drop 1))) (1+z03 (r.data.toList.drop 1)) []=R:=⟨_,rfl⟩;rw[if_neg hb0,hR] at htag;have hbl:=z1c (r.data.toList.drop 1);rw[List.length_drop] at hbl;have h2z:r2.size=r.size - (1+z03 (r.data.toList.drop 1)):=by have:r2.data.toList.length=r2.size:=rfl;rw[←this,h2l,List.length_drop,hl]
   have HN:=hide (show nn=⟨((r.data.toList.drop 1).take (z03 (r.data.toList.drop 1))).toArray⟩ by rw[←hnn,h1l]);have HTN:=hide (fun(h:R=none)=>show tagP r.data.toList=none by rw[htag,h]);have HTS:=hide (fun(kd:Nat) (ats:List RawA) (k:Nat) (h:R=some (kd,ats,k))=>show tagP r.data.toList=some (kd,(r.data.toList.drop 1).take (z03 (r.data.toList.drop 1)),ats,k) by rw[htag,h])
   have HJ0:=hide (fun(W:World) (c:CutAt W b n r2) (t:TokAt W tb 1 nn av tx ta) (f:Fr (fun k=>k=b∨k=tb) w W)=>show TagJ b n tb r.data.toList nn tx av ta R w W (.slice none 0 0) r2 [] none from
    ⟨c,t,Own.nil_ _ _ _ _,fun k hk=>(by cases hk),f,by rw[h2l,show r.data.toList.length - r2.size=1+z03 (r.data.toList.drop 1) by omega];exact hR,by rw[show r.data.toList.length - r2.size=1+z03 (r.data.toList.drop 1) by omega];exact h2l.symm,by omega,by simp⟩)
   clear htag hb0 hnn h1l h2l h0 h47 hR hbl h2z hnn1;go_enter Tryz.func76,Tryz.ntmps76;go_wp2;refine zep 1 (TagF b n tb r.data.toList nn tx av ta R w) (fun _ w'=>lfoT b w') rfl ?pass ?first
   case first=>
    intro hpass;have HPASS:=hide hpass;clear hpass
    go_wp2_with (first
     |(go_at_call 103;refine(HE2.out _ c1).mono ?_;rintro e w2 ⟨rfl,c2,f2⟩;have t2:=t1.fr f2 hne')
     |(go_at_call 103;refine(HE1.out _ C0.out).mono ?_;rintro e w1 ⟨rfl,c1,f1⟩;have t1:=T0.out.fr f1 hne')
     |(go_at_call 104;refine(HW.out _ c2).mono ?_;rintro e w3 ⟨rfl,c3,f3⟩;have t3:=t2.fr f3 hne';obtain⟨y0,y1,y2,y3,y4,y5⟩:=t3.facts;have c4:=c3.fr (Fr.set_b w3 tb 1 (.string nn)) hne;have t4:=t3.name_ nn;have f4:=hide ((((F0.out.trans f1.l).trans f2.l).trans f3.l).trans (Fr.set_b w3 tb 1 (.string nn)).r);obtain⟨k0,k1,k2,k3,k4,k5⟩:=t4.facts))
    go_step3
    simp only[Exit.then];rename_i hK;exact hK _ _ (HPASS.out _ _ (TagF.mk (HJ0.out _ c4 t4 f4.out)))
   case pass=>
    rintro a' wr ⟨u2,u3,u6,u7,u8,u9,u10,u11,u12,u13,u14,u15,u16,u17,u18,u19,u20,u21,u22,u23,u24,u25,u26,u27,u28,u29,u30,u31,u32,u33,u34,u35,u36,u37,u38,u39,u40,u41,u42,u43,u44,u45,u46,u47,u48,u49,u50,u51,u52,u53,u54,u55,u56,u57,u58,u59,u60,u61,u62,u63,u64,u65,u66,u67,u68,u69,u70,u71,u72,u73,u74,u75,u76,u77,u78,u79,u80,u81,u82,u83,u84,u85,u86,v,r',acc,o,rfl,hJ⟩;have HJ:=hide hJ;have hr'l:r'.data.toList.length=r'.size:=rfl;have hrn:r'.size≤n:=hJ.cut.le;have sk:=fun W hW=>z7g b n r' W hW;obtain⟨r3,hr3⟩:∃r3:ByteArray,(⟨(r'.data.toList.drop (nB r'.data.toList)).toArray⟩:ByteArray)=r3:=⟨_,rfl⟩;have h3l:r3.data.toList=r'.data.toList.drop (nB r'.data.toList):=by rw[←hr3]
    have h3z:r3.size=r'.size - nB r'.data.toList:=by rw[←hr3,z1j,List.length_drop,hr'l]
    rw[hr3] at sk;have hres:=hJ.res;have hnble:=zil r'.data.toList;rw[hr'l] at hnble;have HNEW:=hide hJ.new;by_cases hg:goes r'.data.toList
    · have hg':=hg;obtain⟨g1,c,hc,g2,g3⟩:=hg';rw[decide_eq_true g1] at sk;have HS:=hide sk;have h30:0<r3.size:=by rw[←h3l] at hc;exact z4o hc
      obtain⟨iE,iE2⟩:=z3k h30;have hi30:(0:Int)<r3.size:=by omega
      have hc0:r3[0]'h30=c:=z8t h30 (by rw[h3l];exact hc);have b47:(((r3[0]'h30).toNat:Int) !=47)=true:=by rw[hc0,bne_iff_ne];intro e;exact g2 (UInt8.toNat_inj.1 (by show _=47;omega))
      have b62:(((r3[0]'h30).toNat:Int) !=62)=true:=by rw[hc0,bne_iff_ne];intro e;exact g3 (UInt8.toNat_inj.1 (by show _=62;omega))
      rw[zij hg,←h3l] at hres;have HST:=hide (fun(W:World) (f:Fr (fun k=>k=b) wr W)=>(hst.fr (HJ.out.fr.trans f.l) (fun k hk=>by rcases hk with rfl|rfl;exact hfree;exact hfreet)))
      cases ha:z1p r3.data.toList with
      |none=>
       rw[ha] at hres;have HT:=hide (HTN.out hres.symm);have HA:=hide (fun W hW hs=>zp9 b n r3 W hW hs hfree ha);clear ha hres hc hc0 g2 g3 hg sk hr3 h3l h3z hJ hr'l g1 hnble
       go_wp2_with (first
        |(go_at_call 105;refine(HS.out _ HJ.out.cut).mono ?_;rintro e w1 ⟨rfl,c1,f1⟩;have k1:=c1.c1)
        |(go_at_call 106;refine(HA.out _ c1 (HST.out _ f1)).mono ?_;rintro e w2 ⟨r5,x,y,z,rfl,c2,f2⟩))
       simp only[Exit.jump]
       go_ret2
       exact TagPost.no HT.out (c2.same (Fr.alloc (Fr.refl _ _) _)) ((((HJ.out.tok.fr f1 hne').fr f2 hne')).fr (Fr.alloc (Fr.refl (fun _=>False) _) _) (fun h=>h)) (((HJ.out.fr.trans f1.l).trans f2.l).trans (Fr.alloc (Fr.refl _ _) _))
      |some x=>
       obtain⟨a,k⟩:=x;rw[ha] at hres;simp only at hres;have hak:=z5o ha;have h3zl:r3.data.toList.length=r3.size:=rfl;rw[h3zl] at hak;obtain⟨r4,hr4⟩:∃r4:ByteArray,(⟨(r3.data.toList.drop k).toArray⟩:ByteArray)=r4:=⟨_,rfl⟩;have h4l:r4.data.toList=r'.data.toList.drop (nB r'.data.toList+k):=by rw[←hr4,h3l,List.drop_drop]
       have h4z:r4.size=r3.size - k:=by rw[←hr4,z1j,List.length_drop,h3zl]
       have hat:=fun W hW hs=>zpa b n r3 W hW hs hfree ha;obtain⟨xn,hxn⟩:∃xn:ByteArray,(⟨a.name.toArray⟩:ByteArray)=xn:=⟨_,rfl⟩;obtain⟨xv,hxv⟩:∃xv:ByteArray,(⟨a.value.toArray⟩:ByteArray)=xv:=⟨_,rfl⟩;obtain⟨xi,hxi⟩:∃xi:Int,((n - r3.data.toList.length+a.off:Nat):Int)=xi:=⟨_,rfl⟩;rw[hr4,hxn,hxv,hxi] at hat;have hsuf':∀m,r'.data.toList.drop m=r.data.toList.drop (r.data.toList.length - r'.size+m):=fun m=>by rw[←hJ.suf,List.drop_drop]
       have hle':=hJ.le;have hmany:=hJ.many;have hraw:rawV (n - r.data.toList.length) ⟨a.name,a.value,r.data.toList.length - r'.size+nB r'.data.toList+a.off⟩=⟨xn,xv,xi⟩:=by unfold rawV;simp only;rw[hxn,hxv,←hxi];congr 2;rw[h3zl];omega
       have HA:=hide hat;have HLEN:=hide (show acc.length≤1000000 by omega)
       have HEND:=hide (fun(W:World) (v':Value) (o':Option Nat) (c':CutAt W b n r4) (t':TokAt W tb 1 nn av tx ta) (m':Own rawC W 170 v' o' (acc.map (rawV (n - r.data.toList.length))++[⟨xn,xv,xi⟩]))
        (n':∀k,o'=some k→w.heap.size≤k∧k<W.heap.size) (f':Fr (fun k=>k=b∨k=tb) w W)=>
        And.intro (show TagJ b n tb r.data.toList nn tx av ta R w W v' r4 (acc++[⟨a.name,a.value,r.data.toList.length - r'.size+nB r'.data.toList+a.off⟩]) o' from
         ⟨c',t',by rw[List.map_append,List.map_cons,List.map_nil,hraw];exact m',n',f',
          by rw[h4l,show r.data.toList.length - r4.size=r.data.toList.length - r'.size+nB r'.data.toList+k by omega];exact hres,
          by rw[h4l,hsuf'];congr 1;omega,by omega,by rw[List.length_append];simp only[List.length_cons,List.length_nil];omega⟩)
         (show lfoT b W<lfoT b wr by rw[z5n c',z5n HJ.out.cut];omega))
       clear ha hres hc hc0 g2 g3 hg sk hr3 h3l h3z hJ hr'l g1 hnble hak h3zl hr4 h4l h4z hat hxn hxv hxi hsuf' hle' hmany hraw
       go_wp2_with (first
        |(go_at_call 105;refine(HS.out _ HJ.out.cut).mono ?_;rintro e w1 ⟨rfl,c1,f1⟩;have k1:=c1.c1)
        |(go_at_call 106;refine(HA.out _ c1 (HST.out _ f1)).mono ?_;rintro e w2 ⟨rfl,c2,f2⟩;have q2:=HJ.out.own.fr (f1.trans f2) (fun k hk e=>by have:=(HNEW.out k hk).1;have:=hbt.out.1;omega))
        |(at_builtin;(refine z0d rfl rfl zxk (by rfl) (by rfl) (q2.fr (Fr.alloc (Fr.alloc (Fr.refl (fun _=>False) w2) _) _) (fun _ _ h=>h)) (zpb w2 _ ⟨xn,xv,xi⟩ _) (by have:=HLEN.out;simp;omega) ?_);intro B1 d1 w4 o4 m4 g4 n4))
       have h2:Fr (fun _=>False) w2 ((w2.alloc (.cells #[.string xn,.string xv,.int .i64 xi] 170)).alloc (.cells #[.string xn,.string xv,.int .i64 xi] 170)):=Fr.alloc (Fr.alloc (Fr.refl _ _) _) _;have hs2:=h2.size;have hs4:=g4.size;have hsf1:=f1.size;have hsf2:=f2.size;have hob:¬o=some b:=fun e=>by have:=(HNEW.out b e).1;have:=hbt.out.1;omega
       have hot:¬o=some tb:=fun e=>by have:=(HNEW.out tb e).1;have:=hbt.out.2;omega
       have hfr:Fr (fun k=>k=b∨k=tb) w w4:=(((HJ.out.fr.trans f1.l).trans f2.l).trans (h2.mono (fun _ h=>h.elim))).then_ g4 (fun k h1 h2=>by have:=(HNEW.out k h2).1;omega)
       obtain⟨j1,j2⟩:=HEND.out w4 (.slice B1 (acc.length+1) d1) o4 ((c2.same h2).fr g4 hob) ((((HJ.out.tok.fr f1 hne').fr f2 hne').fr h2 (fun h=>h)).fr g4 hot) (by simpa using m4)
        (fun k hk=>by
         rcases n4 k hk with h|h
         · have:=HNEW.out k h;exact⟨this.1,by omega⟩
         · have:=HJ.out.fr.size;exact⟨by omega,h.2⟩) hfr
       go_step3
       exact⟨rfl,TagF.mk j1,j2⟩
    · have hsk0:∃s,decide (0<nB r'.data.toList)=s:=⟨_,rfl⟩;obtain⟨s,hs⟩:=hsk0
      have hpat:(s=false)∨(s=true∧r3=⟨#[]⟩)∨(s=true∧∃h30:0<r3.size,(((r3[0]'h30).toNat:Int) !=47)=false)∨(s=true∧∃h30:0<r3.size,(((r3[0]'h30).toNat:Int) !=47)=true∧(((r3[0]'h30).toNat:Int) !=62)=false):=by
       cases s with
       |false=>exact .inl rfl
       |true=>
        have g1:0<nB r'.data.toList:=of_decide_eq_true hs;right;by_cases h30:0<r3.size
        · have hc:(r'.data.toList.drop (nB r'.data.toList))[0]? =some (r3[0]'h30):=by rw[←h3l];exact z0y r3 0 h30
          by_cases c1:r3[0]'h30=47
          · exact .inr (.inl ⟨rfl,h30,by rw[c1];decide⟩)
          · by_cases c2:r3[0]'h30=62
            · exact .inr (.inr ⟨rfl,h30,by rw[c2];decide,by rw[c2];decide⟩)
            · exact absurd ⟨g1,_,hc,c1,c2⟩ hg
        · refine .inl ⟨rfl, ?_⟩
          cases r3 with
          |mk d=>congr 1;exact Array.toList_inj.1 (List.eq_nil_of_length_eq_zero (by show (⟨d⟩:ByteArray).size=0;omega))
      rw[hs] at sk;have HS:=hide sk;rw[zik hg,←h3l] at hres;have e3:=fun W hW=>z84 b n r3 ⟨#[47,62]⟩ W hW;rw[show (⟨#[47,62]⟩:ByteArray).data.toList=[47,62] from rfl] at e3;have e4:=fun W hW=>z84 b n r3 ⟨#[62]⟩ W hW;rw[show (⟨#[62]⟩:ByteArray).data.toList=[62] from rfl] at e4;have hsuf':∀m,r'.data.toList.drop m=r.data.toList.drop (r.data.toList.length - r'.size+m):=fun m=>by rw[←hJ.suf,List.drop_drop]
      have h3d:∀m,r3.data.toList.drop m=r.data.toList.drop (r.data.toList.length - r'.size+nB r'.data.toList+m):=fun m=>by rw[h3l,List.drop_drop,hsuf',Nat.add_assoc]
      have hend3:∀c,r3.data.toList[0]? =some c→z0z c=false:=fun c hc=>by rw[h3l,List.getElem?_drop,Nat.add_zero] at hc;exact zuj hc
      have hnb3:nB r3.data.toList=0:=by
       cases h:r3.data.toList with
       |nil=>rfl
       |cons c t=>exact zwd (hend3 c (by rw[h];rfl))
      have sk3:=fun W hW=>z7g b n r3 W hW;rw[hnb3,List.drop_zero,z5b] at sk3;have HS3:=hide sk3;have HC:=hide (fun(W:World) (f:Fr (fun k=>k=b) wr W)=>And.intro (HJ.out.tok.fr f hne') (HJ.out.own.fr f (fun k hk e=>by have:=(HNEW.out k hk).1;have:=hbt.out.1;omega)))
      cases hx:hasPrefix r3.data.toList [47,62] with
      |true=>
       rw[hx,if_pos rfl] at hres;rw[hx] at e3;obtain⟨r5,hr5⟩:∃r5:ByteArray,(⟨(trimPrefix r3.data.toList [47,62]).toArray⟩:ByteArray)=r5:=⟨_,rfl⟩;rw[hr5] at e3;have hr5':r5=⟨(r.data.toList.drop (r.data.toList.length - r'.size+nB r'.data.toList+2)).toArray⟩:=by rw[←hr5];unfold trimPrefix;rw[if_pos hx,←h3d];rfl
       have HR:=hide hr5';have HT:=hide (HTS.out _ _ _ hres.symm);have HE3:=hide e3;clear hsuf' h3d hend3 hnb3 sk3 hres e3 e4 hr5 hr5' hx hg sk hs hr3 h3l h3z hJ hr'l hnble;rcases hpat with rfl|⟨rfl,rfl⟩|⟨rfl,h30,b47⟩|⟨rfl,h30,b47,b62⟩
       all_goals
        try have hE:=z3k h30
        try obtain⟨iE,iE2⟩:=hE
        try have hi30:(0:Int)<r3.size:=by omega
        go_wp2_with (first
         |(go_at_call 105;refine(HS.out _ HJ.out.cut).mono ?_;rintro e w1 ⟨rfl,c1,f1⟩;have k1:=c1.c1)
         |(go_at_call 103;refine(HE3.out _ c1).mono ?_;rintro e w2 ⟨rfl,c2,f2⟩;obtain⟨t2,m2⟩:=HC.out _ (f1.trans f2);obtain⟨z0,z1,z2,z3,z4,z5⟩:=t2.facts))
        simp only[Exit.jump]
        go_ret2
        exact TagPost.yes HT.out (c2.fr (Fr.set_b w2 tb 0 (.int .u8 3)) hne) HR.out (t2.kind_ 3) HN.out (((HJ.out.fr.trans f1.l).trans f2.l).trans (Fr.set_b w2 tb 0 (.int .u8 3)).r) (m2.fr (Fr.set_b w2 tb 0 (.int .u8 3)) (fun k hk e=>by have:=(HNEW.out k hk).1;have:=hbt.out.2;omega)) (fun k hk=>by have:=HNEW.out k hk;have h1:=f1.size;have h2:=f2.size;have h3:=(Fr.set_b w2 tb 0 (.int .u8 3)).size;exact⟨this.1,by omega⟩)
      |false=>
       rw[hx,if_neg (by decide)] at hres;rw[hx,show trimPrefix r3.data.toList [47,62]=r3.data.toList by unfold trimPrefix;rw[if_neg (by rw[hx];decide)],z5b] at e3;have HE3:=hide e3;obtain⟨r5,hr5⟩:∃r5:ByteArray,(⟨(trimPrefix r3.data.toList [62]).toArray⟩:ByteArray)=r5:=⟨_,rfl⟩;rw[hr5] at e4
       cases hy:hasPrefix r3.data.toList [62] with
       |true=>
        rw[hy,if_pos rfl] at hres;rw[hy] at e4;have hr5':r5=⟨(r.data.toList.drop (r.data.toList.length - r'.size+nB r'.data.toList+1)).toArray⟩:=by rw[←hr5];unfold trimPrefix;rw[if_pos hy,←h3d];rfl
        have HR:=hide hr5';have HT:=hide (HTS.out _ _ _ hres.symm);have HE4:=hide e4;clear hsuf' h3d hend3 hnb3 sk3 hres e3 e4 hr5 hr5' hx hy hg sk hs hr3 h3l h3z hJ hr'l hnble;rcases hpat with rfl|⟨rfl,rfl⟩|⟨rfl,h30,b47⟩|⟨rfl,h30,b47,b62⟩
        all_goals
         try have hE:=z3k h30
         try obtain⟨iE,iE2⟩:=hE
         try have hi30:(0:Int)<r3.size:=by omega
         go_wp2_with (first
          |(go_at_call 105;refine(HS.out _ HJ.out.cut).mono ?_;rintro e w1 ⟨rfl,c1,f1⟩;have k1:=c1.c1)
          |(go_at_call 103;refine(HE3.out _ c1).mono ?_;rintro e w2 ⟨rfl,c2,f2⟩))
         go_step3
         go_wp2_with (first
          |(go_at_call 105;refine(HS3.out _ c2).mono ?_;rintro e w3 ⟨rfl,c3,f3⟩;obtain⟨t3,m3⟩:=HC.out _ ((f1.trans f2).trans f3);obtain⟨z0,z1,z2,z3,z4,z5⟩:=t3.facts)
          |(go_at_call 103;refine(HE4.out _ c3).mono ?_;rintro e w4 ⟨rfl,c4,f4⟩;obtain⟨t4,m4⟩:=HC.out _ (((f1.trans f2).trans f3).trans f4)))
         simp only[Exit.jump]
         go_ret2
         exact TagPost.yes HT.out c4 HR.out t4 HN.out ((((HJ.out.fr.trans f1.l).trans f2.l).trans f3.l).trans f4.l) m4 (fun k hk=>by have:=HNEW.out k hk;have h1:=f1.size;have h2:=f2.size;have h3:=f3.size;have h4:=f4.size;exact⟨this.1,by omega⟩)
       |false=>
        rw[hy,if_neg (by decide)] at hres;rw[hy] at e4;have HT:=hide (HTN.out hres.symm);have HE4:=hide e4;clear hsuf' h3d hend3 hnb3 sk3 hres e3 e4 hr5 hx hy hg sk hs hr3 h3l h3z hJ hr'l hnble;rcases hpat with rfl|⟨rfl,rfl⟩|⟨rfl,h30,b47⟩|⟨rfl,h30,b47,b62⟩
        all_goals
         try have hE:=z3k h30
         try obtain⟨iE,iE2⟩:=hE
         try have hi30:(0:Int)<r3.size:=by omega
         go_wp2_with (first
          |(go_at_call 105;refine(HS.out _ HJ.out.cut).mono ?_;rintro e w1 ⟨rfl,c1,f1⟩;have k1:=c1.c1)
          |(go_at_call 103;refine(HE3.out _ c1).mono ?_;rintro e w2 ⟨rfl,c2,f2⟩))
         go_step3
         go_wp2_with (first
          |(go_at_call 105;refine(HS3.out _ c2).mono ?_;rintro e w3 ⟨rfl,c3,f3⟩;obtain⟨t3,m3⟩:=HC.out _ ((f1.trans f2).trans f3);obtain⟨z0,z1,z2,z3,z4,z5⟩:=t3.facts)
          |(go_at_call 103;refine(HE4.out _ c3).mono ?_;rintro e w4 ⟨rfl,c4,f4⟩;obtain⟨t4,m4⟩:=HC.out _ (((f1.trans f2).trans f3).trans f4)))
         simp only[Exit.jump]
         go_ret2
         exact TagPost.no HT.out c4 t4 ((((HJ.out.fr.trans f1.l).trans f2.l).trans f3.l).trans f4.l)
theorem zpc (b n tb:Nat)(kd:Int)(r nm tx:ByteArray)(av:Value)(ta:Int)(w:World)(h:CutAt w b n r)(ht:TokAt w tb kd nm av tx ta)(hne:¬b=tb)(hst:St w)(hfree:Free b)(hfreet:Free tb)
 (h0:r.data.toList[0]? =some 60):
 Calls Tryz.prog 76 #[.pointer (some ⟨b,0,none⟩),.pointer (some ⟨tb,0,none⟩)] w fun e w'=>TagPost b n tb r.data.toList av tx ta w e w':=by
 by_cases h47:r.data.toList[1]? =some 47
 · exact zp7 b n tb kd r nm tx av ta w h ht hne h0 h47
 · exact zta b n tb kd r nm tx av ta w h ht hne hst hfree hfreet h0 h47
end Go.Proofs.YtnlacmnoocigiaaGreatDoor
