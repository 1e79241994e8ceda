/- tree: are two trees the same? -/
import Derived.Test.YtnlacmnoocigiaaGreatDoorTreCd
import Derived.Laws.StructEq
import Derived.Shelf.SlicesE.Kit
import Derived.Deep.DeepFit
import Derived.Test.YtnlacmnoocigiaaGreatDoorNamAb
import Derived.Deep.RegionHeldLaw
namespace Go.Proofs.YtnlacmnoocigiaaGreatDoor
open Go.RowKit Go.Lib
attribute [local go_sem ↓] Go.wp_at_zero Go.wp_at_succ
def eqL (a b:List z0b):Bool:=decide (a=b)
def zwn (v:NodeV):Value:=.agg #[.string v.name,.slice v.A v.m v.c,.string v.text,.int .i64 v.parent,.int .i64 v.first,.int .i64 v.next,.int .i64 v.at_]
def zuk (w:World)(S:Nat→Prop)(x:NodeX):Prop:=Rd pairC w S (.slice x.v.A x.v.m x.v.c) x.ats
def eqN (x y:NodeM):Bool:=(x.name.toList==y.name.toList) && (eqL x.attrs y.attrs && ((x.text.toList==y.text.toList) && (x.parent==y.parent && (x.first==y.first && x.next==y.next))))
end Go.Proofs.YtnlacmnoocigiaaGreatDoor
namespace Go.Proofs.YtnlacmnoocigiaaGreatDoor
open Go.RowKit Go.Lib
attribute [local go_sem ↓] Go.wp_at_zero Go.wp_at_succ
structure NodesRd (w:World)(S:Nat→Prop)(v:Value)(X:List NodeX):Prop where
 rd:Rd nodeC w S v (X.map (·.v))
 ok:∀x∈X,zuk w S x
theorem NodesRd.fr {w w':World}{S:Nat→Prop}{v:Value}{X:List NodeX}{fp:Nat→Prop}(h:NodesRd w S v X)(f:Fr fp w w')(hs:∀k,S k→k<w.heap.size∧¬fp k):NodesRd w' S v X:=⟨h.rd.fr f hs,fun x hx=>(h.ok x hx).fr f hs⟩
end Go.Proofs.YtnlacmnoocigiaaGreatDoor
namespace Go.Proofs.YtnlacmnoocigiaaGreatDoor
open Go.RowKit Go.Lib
attribute [local go_sem ↓] Go.wp_at_zero Go.wp_at_succ
def zma (nm:ByteArray):List z0b→ByteArray×Bool
 |[]=>(⟨#[]⟩,false)
 |a::l=>if(a.1.toList==nm.toList)=true then(a.2,true) else zma nm l
def getM (N:List NodeM)(i:Int)(nm:ByteArray):ByteArray×Bool:=if i<0∨(N.length:Int)≤i then(⟨#[]⟩,false) else zma nm ((N[i.toNat]?.map (·.attrs)).getD [])
set_option maxRecDepth 100000 in
set_option maxHeartbeats 4000000 in
theorem zwo (w:World)(A:Option Addr)(n c:Nat)(X:List NodeX)(S:Nat→Prop)(i:Int)(nm:ByteArray)(ha:NodesRd w S (.slice A n c) X)(hS:∀k,S k→k<w.heap.size):
 Calls Tryz.prog 17 #[.agg #[.slice A n c],.int .i64 i,.string nm] w fun e w'=>e=.returned (.tuple #[.string (getM (X.map (·.model)) i nm).1,.bool (getM (X.map (·.model)) i nm).2])∧Fr (fun _=>False) w w':=by
 obtain⟨hla,hm63⟩:=ha.rd.lenT;rw[List.length_map] at hla;have fa:Fr (fun _=>False) w (w.alloc (.cells #[.slice A n c] 31)):=Fr.alloc (Fr.refl _ _) _;have FA:=hide fa;by_cases hbad:i<0∨(n:Int)≤i
 · have hres:getM (X.map (·.model)) i nm=(⟨#[]⟩,false):=by unfold getM;rw[List.length_map,hla,if_pos hbad]
   rw[hres];clear hres fa;by_cases h0:i<0
   · clear hbad hla ha hS;go_enter Tryz.func17,Tryz.ntmps17;go_wp2_with fail;go_returns;exact⟨rfl,FA.out⟩
   · have h1:¬i<(n:Int):=by omega
     have h2:(n:Int)≤i:=by omega
     clear hbad hla ha hS;go_enter Tryz.func17,Tryz.ntmps17;go_wp2_with fail;go_returns;exact⟨rfl,FA.out⟩
 · obtain⟨p,rfl⟩:∃p:Nat,i=(p:Int):=⟨i.toNat,by omega⟩;have hpn:p<n:=by omega
   have hpX:p<X.length:=by omega
   have hpi:(p:Int)<n:=by omega
   have h0:¬(p:Int)<0:=by omega
   have h2:¬(n:Int)≤(p:Int):=by omega
   have hp0:(0:Int)≤p:=by omega
   have HAW:=ha.fr fa (fun k hk=>⟨hS k hk,fun h=>h⟩);obtain⟨g,off,cp,hv, -, -,hg,hc⟩:=HAW.rd.at_ (i:=p) (by simpa using hpX);simp only[Value.slice.injEq] at hv;obtain⟨rfl, -,rfl⟩:=hv;have q1:=hc 1 (by decide);rw[List.getElem_map] at q1;have hox:=HAW.ok _ (List.getElem_mem hpX);have hres:getM (X.map (·.model)) (p:Int) nm=zma nm X[p].ats:=by unfold getM;rw[List.length_map,hla,if_neg hbad,Int.toNat_natCast,List.getElem?_map,List.getElem?_eq_getElem hpX];rfl
   rw[hres];obtain⟨r,hr⟩:∃r,zma nm X[p].ats=r:=⟨_,rfl⟩;rw[hr];generalize X[p]=x at*;obtain⟨⟨xn,xA,xm,xc,xt,xp,xf,xe,xa⟩,xo,xs⟩:=x;simp only[nodeC,List.getElem?_cons_zero,List.getElem?_cons_succ,←Nat.add_assoc] at q1;have hox:Rd pairC (w.alloc (.cells #[.slice (some ⟨g,off,none⟩) n c] 31)) S (.slice xA xm xc) xs:=hox;obtain⟨hlx,hx63⟩:=hox.lenT;have HOX:=hide hox;have HRR:=hide hr;have HLX:=hide hlx;have HS2:=hide (fun k hk=>Nat.lt_of_lt_of_le (hS k hk) fa.size);clear hbad hres hr hc hg HAW hox hlx ha hS fa hla hpn hpX;go_enter Tryz.func17,Tryz.ntmps17;go_wp2_with fail;go_loopw [26] (fun i wr=>∃k:Nat,i=.int .i64 k∧k≤xm∧Hid (Fr (fun _=>False) (w.alloc (.cells #[.slice (some ⟨g,off,none⟩) n c] 31)) wr)∧Hid (zma nm (xs.drop k)=r)) (fun i _=>xm - (Go.RowKit.intOf i).toNat)
   case atStart=>exact⟨0,rfl,Nat.zero_le _,hide (Fr.refl _ _),hide (by rw[List.drop_zero];exact HRR.out)⟩
   case round=>
    obtain⟨k,rfl,hk,hfr,hd⟩:=hrel;by_cases hlt:k<xm
    · have hki:(k:Int)<xm:=by omega
      have hka:k<xs.length:=by rw[HLX.out];exact hlt
      obtain⟨g2,off2,cp2,hv2, -, -,hg2,hc2⟩:=(HOX.out.fr hfr.out (fun k hk=>⟨HS2.out k hk,fun h=>h⟩)).at_ hka;simp only[Value.slice.injEq] at hv2;obtain⟨rfl, -,rfl⟩:=hv2;have p0:=hc2 0 (by decide);have p1:=hc2 1 (by decide);have hstep:=hd.out;rw[List.drop_eq_getElem_cons hka,zma] at hstep;generalize xs[k]=a at*;obtain⟨an,av⟩:=a;simp only[pairC,Nat.add_zero,List.getElem?_cons_zero,List.getElem?_cons_succ,←Nat.add_assoc] at p0 p1 hstep;have HW:=hide (hfr.out.alloc (.cells #[.string an,.string av] 47));clear hc2 hg2 hka hd
      cases he:(an.toList==nm.toList) with
      |true=>rw[he,if_pos rfl] at hstep;subst hstep;go_wp2_with fail;go_returns;exact⟨rfl,FA.out.trans HW.out⟩
      |false=>
       rw[he,if_neg (by simp)] at hstep;have hn2:=hide hstep;clear hstep;go_wp2_with fail
       first
        |exact⟨⟨k+1,by go_num,by omega,HW,hn2⟩,by simp[Go.RowKit.intOf];omega⟩
        |(go_roundw
          case rel=>exact⟨k+1,by go_num,by omega,HW,hn2⟩
          case measure=>simp[Go.RowKit.intOf];omega)
    · have hki:¬(k:Int)<xm:=by omega
      obtain rfl:r=(⟨#[]⟩,false):=by rw[←hd.out,List.drop_of_length_le (by rw[HLX.out];omega)];rfl
      go_wp2_with fail
      go_returns;exact⟨rfl,FA.out.trans hfr.out⟩
end Go.Proofs.YtnlacmnoocigiaaGreatDoor
namespace Go.Proofs.YtnlacmnoocigiaaGreatDoor
open Go.RowKit Go.Lib
attribute [local go_sem ↓] Go.wp_at_zero Go.wp_at_succ
theorem ztn (l:List UInt8):z0o l= !(decide (lenN l=0)||decide (lenN l<l.length)):=by have h:=z5c l;unfold z0o;by_cases h1:lenN l=0<;>by_cases h2:lenN l=l.length<;>simp[h1,h2]<;>omega
set_option maxRecDepth 100000 in
set_option maxHeartbeats 2000000 in
theorem zkh (A:Option Addr)(n c:Nat)(L:List ByteArray)(S:Nat→Prop)(w:World)(hr:Rd strT w S (.slice A n c) L)(hz:∀s∈L,s.size≤1000000):
 Calls Tryz.prog 128 #[.slice A n c] w fun e w'=>e=.returned (.bool (L.all fun s=>z0o s.data.toList))∧w=w':=by
 obtain⟨hL,h63⟩:=hr.lenT;obtain⟨r,hres⟩:∃r,(L.all fun s=>z0o s.data.toList)=r:=⟨_,rfl⟩;rw[hres];have HR:=hide hr;have HL:=hide hL;have HZ:=hide hz;have HRES:=hide hres;clear hr hL hz hres;go_enter Tryz.func128,Tryz.ntmps128;go_wp2_with fail;go_loopw [8] (fun i wr=>∃k:Nat,k≤n∧i=.int .i64 k∧w=wr∧Hid (((L.drop k).all fun s=>z0o s.data.toList)=r)) (fun i _=>n - (Go.RowKit.intOf i).toNat)
 case atStart=>exact⟨0,Nat.zero_le _,rfl,rfl,hide (by rw[List.drop_zero];exact HRES.out)⟩
 case round=>
  obtain⟨k,hk,rfl,rfl,hd⟩:=hrel;by_cases hlt:k<n
  · have hki:(k:Int)<n:=by omega
    have hka:k<L.length:=by rw[HL.out];exact hlt
    obtain⟨g,off,cp,hv, -, -,hg,hc⟩:=HR.out.at_ hka;simp only[Value.slice.injEq] at hv;obtain⟨rfl, -,rfl⟩:=hv;have q0:=hc 0 (by decide);have hstep:=hd.out;rw[List.drop_eq_getElem_cons hka,List.all_cons,ztn] at hstep;have hsz:=HZ.out _ (List.getElem_mem hka);generalize L[k]=s at*;have hl:s.data.toList.length=s.size:=rfl;have HN:=hide (fun W=>z9f s W hsz);simp only[strT,Nat.add_zero,List.getElem?_cons_zero,Nat.mul_one] at q0;rw[hl] at hstep;generalize lenN s.data.toList=z at*;clear hc hg hka hd;by_cases hz0:z=0
    · subst hz0;simp at hstep;obtain rfl:=hstep;go_wp2_with (go_at_call 151;refine(HN.out _).mono ?_;rintro e w' ⟨rfl,rfl⟩);go_ret;exact⟨rfl,rfl⟩
    · have hz1:((z:Int)==0)=false:=by rw[beq_eq_false_iff_ne];omega
      by_cases hzs:z<s.size
      · have hzi:(z:Int)<s.size:=by omega
        simp[hz0,hzs] at hstep;obtain rfl:=hstep;clear hz0 hzs;go_wp2_with (go_at_call 151;refine(HN.out _).mono ?_;rintro e w' ⟨rfl,rfl⟩);go_ret;exact⟨rfl,rfl⟩
      · have hzi:¬(z:Int)<s.size:=by omega
        simp[hz0,hzs] at hstep;have hn2:=hide hstep;clear hz0 hzs hstep;go_wp2_with (go_at_call 151;refine(HN.out _).mono ?_;rintro e w' ⟨rfl,rfl⟩);go_roundw
        case rel=>exact⟨k+1,by omega,by go_num,by trivial,hide (by have:=hn2.out;first|exact this|simpa using this)⟩
        case measure=>simp[Go.RowKit.intOf];omega
  · have hki:¬(k:Int)<n:=by omega
    obtain rfl:r=true:=by rw[←hd.out,List.drop_of_length_le (by rw[HL.out];omega)];rfl
    go_wp2_with fail
    go_ret;exact⟨rfl,rfl⟩
set_option maxHeartbeats 2000000 in
theorem zdi (s:ByteArray)(w:World)(hb:UB w)(hs:s.size≤1000000):Calls Tryz.prog 59 #[.string s] w fun e w'=>e=.returned (.bool ((z0h s.data.toList).2==0))∧Fr (fun _=>False) w w':=by have HV:=hide (zbh s w hb hs);generalize (z0h s.data.toList).1=a at*;generalize (z0h s.data.toList).2=c at*;clear hb hs;go_enter Tryz.func59,Tryz.ntmps59;go_wp2_with (go_at_call 45;refine HV.out.mono ?_;rintro e w1 ⟨rfl,f1⟩);go_ret;exact⟨rfl,f1⟩
end Go.Proofs.YtnlacmnoocigiaaGreatDoor
namespace Go.Proofs.YtnlacmnoocigiaaGreatDoor
open Go.RowKit Go.Lib
attribute [local go_sem ↓] Go.wp_at_zero Go.wp_at_succ
theorem zq3 (w:World)(L:List ByteArray)(E:TypeId)(cs:Array Value)(hc:cs.toList=strT.flat L)(hl:L.length≤maxLen):Rd strT (w.alloc (.cells cs E)) (fun k=>k=w.heap.size) (.slice (some ⟨w.heap.size,0,none⟩) L.length L.length) L:=by refine⟨_,L.length,rfl,Nat.le_refl _,hl,fun h=>(by cases h),fun _=>⟨w.heap.size,0,rfl,rfl,fun j u hu=> ?_⟩⟩;rw[cell_of_row _ _ _ _ _ _ (heap_alloc_new w _),Nat.zero_add,←Array.getElem?_toList,hc];exact hu
set_option maxRecDepth 100000 in
set_option maxHeartbeats 2000000 in
theorem zmb (s:ByteArray)(w:World)(hst:St w)(hs:s.size≤1000000):Calls Tryz.prog 84 #[.string s] w fun e w'=>
 (∃p l,e=.returned (.tuple #[.string p,.string l,.bool (z0l s.data.toList).isSome]))∧Fr (fun _=>False) w w':=by
 have hl:s.data.toList.length=s.size:=rfl;obtain⟨ml,hml⟩:=hst.ml;obtain⟨r,hr⟩:∃r,(z0l s.data.toList).isSome=r:=⟨_,rfl⟩;rw[hr];by_cases h64:64<s.size
 · have hi:(64:Int)<s.size:=by omega
   obtain rfl:r=false:=by rw[←hr];unfold z0l;rw[if_pos (by omega)];rfl
   clear h64 hr hst hml hl;go_enter Tryz.func84,Tryz.ntmps84;go_wp2_with fail;go_returns;exact⟨⟨_,_,rfl⟩,Fr.refl _ _⟩
 · have hi:¬(64:Int)<s.size:=by omega
   have HC0:=Tryz.strings_Cut s ⟨#[58]⟩ ml w (by omega) hml;rw[show (⟨#[58]⟩:ByteArray).data.toList=[58] from rfl] at HC0;unfold z0l at hr;rw[if_neg (by omega)] at hr;by_cases hm:(58:UInt8)∈s.data.toList
   · rw[zp6 hm] at HC0;rw[if_pos hm] at hr;simp only at HC0;obtain⟨P,hP⟩:∃P:ByteArray,(⟨(s.data.toList.takeWhile (· !=58)).toArray⟩:ByteArray)=P:=⟨_,rfl⟩;obtain⟨Q,hQ⟩:∃Q:ByteArray,(⟨(s.data.toList.drop ((s.data.toList.takeWhile (· !=58)).length+1)).toArray⟩:ByteArray)=Q:=⟨_,rfl⟩;have hPl:P.data.toList=s.data.toList.takeWhile (· !=58):=by rw[←hP]
     have hQl:Q.data.toList=s.data.toList.drop ((s.data.toList.takeWhile (· !=58)).length+1):=by rw[←hQ]
     have hPz:P.size≤1000000:=by have h1:P.data.toList.length=P.size:=rfl;rw[hPl] at h1;have:=z14 (· !=(58:UInt8)) s.data.toList;omega
     have hQz:Q.size≤1000000:=by have h1:Q.data.toList.length=Q.size:=rfl;rw[hQl,List.length_drop] at h1;omega
     rw[hP,hQ] at HC0;rw[←hPl] at hr;have hr2:(([P,Q]:List ByteArray).all fun s=>z0o s.data.toList)=r:=by rw[←hr,List.all_cons,List.all_cons,List.all_nil,Bool.and_true,hQl,←hPl];cases z0o P.data.toList<;>cases z0o (s.data.toList.drop (P.data.toList.length+1))<;>rfl
     have HA:=hide (fun(W:World)=>zkh (some ⟨W.heap.size,0,none⟩) 2 2 [P,Q] _ (W.alloc (.cells #[.string P,.string Q] 9)) (zq3 W [P,Q] 9 #[.string P,.string Q] rfl (by simp[maxLen])) (fun s hs=>by
      simp only[List.mem_cons,List.not_mem_nil,or_false] at hs;rcases hs with rfl|rfl
      · exact hPz
      · exact hQz))
     rw[hr2] at HA;have HC:=hide HC0;clear HC0 hr hr2 hP hQ hPl hQl hPz hQz hm hst hml hl h64
     cases r with
     |true=>
      go_enter Tryz.func84,Tryz.ntmps84
      go_wp2_with (first
       |(go_at_call 74;refine HC.out.mono ?_;rintro e w1 ⟨rfl,n1,rfl⟩)
       |(go_at_call 128;refine(HA.out _).mono ?_;rintro e w2 ⟨rfl,rfl⟩))
      go_returns;exact⟨⟨_,_,rfl⟩,((Fr.refl _ _).drewN _).alloc _⟩
     |false=>
      go_enter Tryz.func84,Tryz.ntmps84
      go_wp2_with (first
       |(go_at_call 74;refine HC.out.mono ?_;rintro e w1 ⟨rfl,n1,rfl⟩)
       |(go_at_call 128;refine(HA.out _).mono ?_;rintro e w2 ⟨rfl,rfl⟩))
      go_returns;exact⟨⟨_,_,rfl⟩,((Fr.refl _ _).drewN _).alloc _⟩
   · rw[zk1 hm] at HC0;rw[if_neg hm] at hr;simp only at HC0;have hr2:(([s]:List ByteArray).all fun s=>z0o s.data.toList)=r:=by rw[←hr,List.all_cons,List.all_nil,Bool.and_true];by_cases g1:z0o s.data.toList=true<;>simp[g1]
     have HA:=hide (fun(W:World)=>zkh (some ⟨W.heap.size,0,none⟩) 1 1 [s] _ (W.alloc (.cells #[.string s] 9)) (zq3 W [s] 9 #[.string s] rfl (by simp[maxLen])) (fun x hx=>by simp only[List.mem_cons,List.not_mem_nil,or_false] at hx;subst hx;exact hs));rw[hr2] at HA;have HC:=hide HC0;clear HC0 hr hr2 hm hst hml hl h64
     cases r with
     |true=>
      go_enter Tryz.func84,Tryz.ntmps84
      go_wp2_with (first
       |(go_at_call 74;refine HC.out.mono ?_;rintro e w1 ⟨rfl,n1,rfl⟩)
       |(go_at_call 128;refine(HA.out _).mono ?_;rintro e w2 ⟨rfl,rfl⟩))
      go_returns;exact⟨⟨_,_,rfl⟩,((Fr.refl _ _).drewN _).alloc _⟩
     |false=>
      go_enter Tryz.func84,Tryz.ntmps84
      go_wp2_with (first
       |(go_at_call 74;refine HC.out.mono ?_;rintro e w1 ⟨rfl,n1,rfl⟩)
       |(go_at_call 128;refine(HA.out _).mono ?_;rintro e w2 ⟨rfl,rfl⟩))
      go_returns;exact⟨⟨_,_,rfl⟩,((Fr.refl _ _).drewN _).alloc _⟩
set_option maxHeartbeats 2000000 in
theorem zq4 (s:ByteArray)(w:World)(hst:St w)(hs:s.size≤1000000):Calls Tryz.prog 57 #[.string s] w fun e w'=>e=.returned (.bool (z0l s.data.toList).isSome)∧Fr (fun _=>False) w w':=by have HV:=hide (zmb s w hst hs);generalize (z0l s.data.toList).isSome=r at*;clear hst hs;go_enter Tryz.func57,Tryz.ntmps57;go_wp2_with (go_at_call 84;refine HV.out.mono ?_;rintro e w1 ⟨⟨p,l,rfl⟩,f1⟩);go_ret;exact⟨rfl,f1⟩
end Go.Proofs.YtnlacmnoocigiaaGreatDoor
namespace Go.Proofs.YtnlacmnoocigiaaGreatDoor
open Go.RowKit Go.Lib
attribute [local go_sem ↓] Go.wp_at_zero Go.wp_at_succ
def badA (a:z0b):Bool:= !(z0l a.1.data.toList).isSome|| !((z0h a.2.data.toList).2==0)
set_option maxRecDepth 100000 in
set_option maxHeartbeats 2000000 in
theorem zmc (a:z0b)(w:World)(hst:St w)(h1:a.1.size≤1000000)(h2:a.2.size≤1000000):Calls Tryz.prog 87 #[.agg #[.string a.1,.string a.2]] w fun e w'=>e=.returned (.bool (badA a))∧Fr (fun _=>False) w w':=by
 have fa:Fr (fun _=>False) w (w.alloc (.cells #[.string a.1,.string a.2] 47)):=Fr.alloc (Fr.refl _ _) _;have HN:=hide (zq4 a.1 _ (hst.same fa) h1);have HV:=hide (fun(W:World) (f:Fr (fun _=>False) w W)=>zdi a.2 W (hst.same f).ub h2);have hb:=heap_alloc_new w (.cells #[.string a.1,.string a.2] 47);have HB:=hide (fun(W:World) (f:Fr (fun _=>False) (w.alloc (.cells #[.string a.1,.string a.2] 47)) W)=>show W.cell? ⟨w.heap.size,1,none⟩=some (.string a.2) from by rw[f.cell (by simp) (fun h=>h),cell_of_row _ _ _ _ _ _ hb];rfl);have FA:=hide fa;unfold badA;generalize (z0l a.1.data.toList).isSome=r1 at*;generalize ((z0h a.2.data.toList).2==0)=r2 at*;obtain⟨an,av⟩:=a;simp only at*;clear fa hb hst h1 h2
 cases r1 with
 |false=>simp only[Bool.not_false,Bool.true_or];go_enter Tryz.func87,Tryz.ntmps87;go_wp2_with (go_at_call 57;refine HN.out.mono ?_;rintro e w1 ⟨rfl,f1⟩);go_ret;exact⟨rfl,FA.out.trans f1⟩
 |true=>
  cases r2
  all_goals
   simp only[Bool.not_true,Bool.false_or,Bool.not_false];go_enter Tryz.func87,Tryz.ntmps87
   go_wp2_with (first
    |(go_at_call 57;refine HN.out.mono ?_;rintro e w1 ⟨rfl,f1⟩;have z1:=HB.out w1 f1)
    |(go_at_call 59;refine(HV.out _ (FA.out.trans f1)).mono ?_;rintro e w2 ⟨rfl,f2⟩))
   go_ret;exact⟨rfl,(FA.out.trans f1).trans f2⟩
set_option maxRecDepth 100000 in
set_option maxHeartbeats 2000000 in
theorem zeu (A:Option Addr)(n c:Nat)(L:List z0b)(S:Nat→Prop)(w:World)(hst:St w)(hr:Rd pairC w S (.slice A n c) L)(hS:∀k,S k→k<w.heap.size)(hz:∀a∈L,a.1.size≤1000000∧a.2.size≤1000000):
 Calls Tryz.prog 86 #[.slice A n c,.func (.func 87) #[] #[]] w fun e w'=>e=.returned (.bool (L.any badA))∧Fr (fun _=>False) w w':=by
 have HIX:Calls Tryz.prog 129 #[.slice A n c,.func (.func 87) #[] #[]] w fun e w'=>(∃z:Int,e=.returned (.int .i64 z)∧(decide (0≤z)=L.any badA))∧Fr (fun _=>False) w w':=by
  obtain⟨hL,h63⟩:=hr.lenT;obtain⟨r,hres⟩:∃r,L.any badA=r:=⟨_,rfl⟩;rw[hres];have HR:=hide hr;have HS:=hide hS;have HL:=hide hL;have HZ:=hide hz;have HRES:=hide hres;have HST:=hide (fun(W:World) (f:Fr (fun _=>False) w W)=>hst.same f);clear hr hS hL hz hres hst;go_enter Tryz.func129,Tryz.ntmps129;go_wp2_with fail;go_loopw [8] (fun i wr=>∃k:Nat,k≤n∧i=.int .i64 k∧Hid (Fr (fun _=>False) w wr)∧Hid ((L.drop k).any badA=r)) (fun i _=>n - (Go.RowKit.intOf i).toNat)
  case atStart=>exact⟨0,Nat.zero_le _,rfl,hide (Fr.refl _ _),hide (by rw[List.drop_zero];exact HRES.out)⟩
  case round=>
   obtain⟨k,hk,rfl,hfr,hd⟩:=hrel;by_cases hlt:k<n
   · have hki:(k:Int)<n:=by omega
     have hka:k<L.length:=by rw[HL.out];exact hlt
     obtain⟨g,off,cp,hv, -, -,hg,hc⟩:=(HR.out.fr hfr.out (fun k hk=>⟨HS.out k hk,fun h=>h⟩)).at_ hka;simp only[Value.slice.injEq] at hv;obtain⟨rfl, -,rfl⟩:=hv;have q0:=hc 0 (by decide);have q1:=hc 1 (by decide);have hstep:=hd.out;rw[List.drop_eq_getElem_cons hka,List.any_cons] at hstep;have hsz:=HZ.out _ (List.getElem_mem hka);generalize L[k]=a at*;have HP:=hide (zmc a wr (HST.out wr hfr.out) hsz.1 hsz.2);obtain⟨an,av⟩:=a;simp only[pairC,Nat.add_zero,List.getElem?_cons_zero,List.getElem?_cons_succ,←Nat.add_assoc] at q0 q1;generalize badA (an,av)=bb at*;clear hc hg hka hd hsz
     cases bb with
     |true=>rw[Bool.true_or] at hstep;subst hstep;go_wp2_with (go_at_call 87;refine HP.out.mono ?_;rintro e w' ⟨rfl,f1⟩);go_ret;exact⟨⟨_,rfl,by simp⟩,hfr.out.trans f1⟩
     |false=>rw[Bool.false_or] at hstep;have hn2:=hide hstep;clear hstep;go_wp2_with (go_at_call 87;refine HP.out.mono ?_;rintro e w' ⟨rfl,f1⟩);exact⟨⟨k+1,by omega,by go_num,hide (hfr.out.trans f1),hn2⟩,by simp[Go.RowKit.intOf];omega⟩
   · have hki:¬(k:Int)<n:=by omega
     obtain rfl:r=false:=by rw[←hd.out,List.drop_of_length_le (by rw[HL.out];omega)];rfl
     go_wp2_with fail
     go_ret;exact⟨⟨_,rfl,by decide⟩,hfr.out⟩
 have HI:=hide HIX;generalize L.any badA=r at*;clear HIX hr hS hz hst;go_enter Tryz.func86,Tryz.ntmps86;go_wp2_with (go_at_call 129;refine HI.out.mono ?_;rintro e w1 ⟨⟨z,rfl,hz⟩,f1⟩);go_ret;exact⟨by rw[←hz];rfl,f1⟩
end Go.Proofs.YtnlacmnoocigiaaGreatDoor
namespace Go.Proofs.YtnlacmnoocigiaaGreatDoor
open Go.RowKit Go.Lib
attribute [local go_sem ↓] Go.wp_at_zero Go.wp_at_succ
open Go.Sort in
theorem zto (x y:z0b)(W:World):Calls Tryz.prog 50 #[.agg #[.string x.1,.string x.2],.agg #[.string y.1,.string y.2]] W fun e w'=>e=.returned (.int .i64 (cmpA x y))∧Fr (fun _=>False) W w':=
 (zgu x y W).mono fun e w' ⟨he,q,os,hw⟩=>⟨he,by
  subst hw;refine⟨rfl,rfl,rfl, ?_,fun k hk _=> ?_⟩
  · show W.heap.size≤(W.heap++os).size;simp
  · show (W.heap++os)[k]? =W.heap[k]?;rw[Array.getElem?_append_left hk]⟩
theorem ztp (x y:z0b):(cmpA x y<0)↔nmA x<nmA y:=by
 unfold cmpA cmpS nmA;by_cases h1:x.1.data.toList<y.1.data.toList
 · rw[if_pos h1];simp[h1]
 · rw[if_neg h1];by_cases h2:y.1.data.toList<x.1.data.toList
   · rw[if_pos h2];simp[h1]
   · rw[if_neg h2];simp[h1]
def z8a :List z0b→Bool
 |x::y::l=> !decide (nmA y<nmA x) && z8a (y::l)
 |_=>true
theorem zc1 :∀(l:List z0b),z8a l=true↔∀i,∀h:i+1<l.length,¬nmA l[i+1]<nmA l[i]
 |[]=>by simp[z8a]
 |[x]=>by simp[z8a]
 |x::y::l=>by
  rw[z8a,Bool.and_eq_true,Bool.not_eq_true',decide_eq_false_iff_not,zc1 (y::l)];constructor
  · rintro⟨h1,h2⟩ i h
    cases i with
    |zero=>exact h1
    |succ i=>exact h2 i (by simp only[List.length_cons] at h⊢;omega)
  · intro h;exact⟨h 0 (by simp),fun i hi=>h (i+1) (by simp only[List.length_cons] at hi⊢;omega)⟩
set_option maxRecDepth 100000 in
set_option maxHeartbeats 4000000 in
theorem zh0 (A:Option Addr)(n c:Nat)(L:List z0b)(S:Nat→Prop)(w:World)(hr:Rd pairC w S (.slice A n c) L)(hS:∀k,S k→k<w.heap.size):
 Calls Tryz.prog 85 #[.slice A n c,.func (.func 50) #[] #[]] w fun e w'=>e=.returned (.bool (z8a L))∧Fr (fun _=>False) w w':=by
 obtain⟨hL,h63⟩:=hr.lenT;obtain⟨r,hres⟩:∃r,z8a L=r:=⟨_,rfl⟩;rw[hres];have HR:=hide hr;have HS:=hide hS;have HL:=hide hL;have HRES:=hide hres;clear hr hS hL hres;go_enter Tryz.func85,Tryz.ntmps85;go_wp2_with fail;go_loopw [5] (fun i wr=>∃z:Int,i=.int .i64 z∧ -1≤z∧z<n∧Hid (Fr (fun _=>False) w wr)∧Hid (∀i,∀h:i+1<L.length,z≤i→¬nmA L[i+1]<nmA L[i])) (fun i _=>((Go.RowKit.intOf i)+1).toNat)
 case atStart=>exact⟨_,rfl,by omega,by omega,hide (Fr.refl _ _),hide (fun i h h1=>absurd h (by rw[HL.out];omega))⟩
 case round=>
  obtain⟨z,rfl,hz1,hzn,hfr,hno⟩:=hrel;by_cases hp:0<z
  · obtain⟨j,rfl⟩:∃j:Nat,z=(j:Int):=⟨z.toNat,by omega⟩;have hka:j<L.length:=by rw[HL.out];omega
    have hkb:j - 1<L.length:=by omega
    have HRW:=HR.out.fr hfr.out (fun k hk=>⟨HS.out k hk,fun h=>h⟩);obtain⟨g,off,cp,hv, -, -,hg,hc⟩:=HRW.at_ hka;obtain⟨g',off',cp',hv', -, -,hg',hc'⟩:=HRW.at_ hkb;simp only[Value.slice.injEq] at hv hv';obtain⟨rfl, -,rfl⟩:=hv;simp only[Option.some.injEq,Addr.mk.injEq] at hv';obtain⟨⟨rfl,rfl, -⟩, -, -⟩:=hv';have q0:=hc 0 (by decide);have q1:=hc 1 (by decide);have p0:=hc' 0 (by decide);have p1:=hc' 1 (by decide);have hsame:Hid (∀i,∀h:i+1<L.length,i+1=j→(nmA L[i+1]<nmA L[i]↔nmA (L[j]'hka)<nmA (L[j - 1]'hkb))):=hide (fun i h h1=>by subst h1;exact Iff.rfl)
    have hbad:Hid (nmA (L[j]'hka)<nmA (L[j - 1]'hkb)→z8a L=false):=hide (fun e=>by
     cases hq:z8a L with
     |false=>rfl
     |true=>exact absurd ((hsame.out (j - 1) (by omega) (by omega)).2 e) ((zc1 L).1 hq (j - 1) (by omega)))
    have hgood:Hid (¬nmA (L[j]'hka)<nmA (L[j - 1]'hkb)→∀i,∀h:i+1<L.length,(j:Int) - 1≤i→¬nmA L[i+1]<nmA L[i]):=hide (fun e i h h1=>by
     by_cases h2:i+1=j
     · exact fun g=>e ((hsame.out i h h2).1 g)
     · exact hno.out i h (by omega))
    have hgw:g<wr.heap.size:=Nat.lt_of_lt_of_le (HS.out g hg) hfr.out.size;clear hsame;generalize (L[j]'hka)=x at*;generalize (L[j - 1]'hkb)=y at*;have HO:=hide (fun W=>zto x y W);have hneg:=ztp x y;obtain⟨xn,xv⟩:=x;obtain⟨yn,yv⟩:=y;simp only[pairC,Nat.add_zero,List.getElem?_cons_zero,List.getElem?_cons_succ,←Nat.add_assoc] at q0 q1 p0 p1;have e1:IntKind.i64.wrap ((j:Int) - 1)=((j - 1:Nat):Int):=by rw[IntWalk.i64_in _ (by omega)];omega
    have b1:(j:Int)<n:=by omega
    have b2:((j - 1:Nat):Int)<n:=by omega
    have b3:(0:Int)≤(j:Int):=by omega
    have b4:(0:Int)≤((j - 1:Nat):Int):=by omega
    have b5:(0:Int)<(j:Int):=by omega
    generalize cmpA (xn,xv) (yn,yv)=zz at*;clear hc hc' hg hg' HRW hka hkb hno;by_cases hz:zz<0
    · obtain rfl:r=false:=by rw[←HRES.out];exact hbad.out (hneg.1 hz)
      clear hbad hgood hneg;go_wp2_with fail
      go_region_held_law (fun w'=>w'.cell? ⟨g,off+j*2,none⟩=some (.string xn)∧w'.cell? ⟨g,off+j*2+1,none⟩=some (.string xv)∧w'.cell? ⟨g,off+(j - 1)*2,none⟩=some (.string yn)∧w'.cell? ⟨g,off+(j - 1)*2+1,none⟩=some (.string yv))
       (first|exact⟨q0,q1,p0,p1⟩|exact⟨(f1.cell hgw (fun h=>h)).trans q0,(f1.cell hgw (fun h=>h)).trans q1,(f1.cell hgw (fun h=>h)).trans p0,(f1.cell hgw (fun h=>h)).trans p1⟩)
       ((go_at_call 50;refine(HO.out _).mono ?_;rintro e w1 ⟨rfl,hf1⟩;have f1:Fr (fun _=>False) wr w1:=⟨hf1.os,hf1.tape,hf1.output,hf1.size,hf1.block⟩))
      go_wp2_with fail
      go_ret;exact⟨rfl,hfr.out.trans f1⟩
    · have hn2:=hide (hgood.out (fun h=>hz (hneg.2 h)));clear hbad hgood hneg;go_wp2_with fail
      go_region_held_law (fun w'=>w'.cell? ⟨g,off+j*2,none⟩=some (.string xn)∧w'.cell? ⟨g,off+j*2+1,none⟩=some (.string xv)∧w'.cell? ⟨g,off+(j - 1)*2,none⟩=some (.string yn)∧w'.cell? ⟨g,off+(j - 1)*2+1,none⟩=some (.string yv))
       (first|exact⟨q0,q1,p0,p1⟩|exact⟨(f1.cell hgw (fun h=>h)).trans q0,(f1.cell hgw (fun h=>h)).trans q1,(f1.cell hgw (fun h=>h)).trans p0,(f1.cell hgw (fun h=>h)).trans p1⟩)
       ((go_at_call 50;refine(HO.out _).mono ?_;rintro e w1 ⟨rfl,hf1⟩;have f1:Fr (fun _=>False) wr w1:=⟨hf1.os,hf1.tape,hf1.output,hf1.size,hf1.block⟩))
      go_wp2_with fail
      go_roundw
      case rel=>exact⟨(j:Int) - 1,by(try go_num)<;>(first|rfl|(congr 1;omega)),by omega,by omega,hide (hfr.out.trans f1),hn2⟩
      case measure=>simp[Go.RowKit.intOf];omega
  · have hp2:¬(0:Int)<z:=hp;obtain rfl:r=true:=by rw[←HRES.out];exact(zc1 L).2 (fun i h=>hno.out i h (by omega))
    go_wp2_with fail
    go_ret;exact⟨rfl,hfr.out⟩
def z7k (L:List z0b):Bool:=decide (L.length≤32) && (z8a L && (!adjA L && !L.any badA))
set_option maxRecDepth 100000 in
set_option maxHeartbeats 2000000 in
theorem zq5 (A:Option Addr)(n c:Nat)(L:List z0b)(S:Nat→Prop)(w:World)(hst:St w)(hr:Rd pairC w S (.slice A n c) L)(hS:∀k,S k→k<w.heap.size)(hz:n≤32→∀a∈L,a.1.size≤1000000∧a.2.size≤1000000):
 Calls Tryz.prog 58 #[.slice A n c] w fun e w'=>e=.returned (.bool (z7k L))∧Fr (fun _=>False) w w':=by
 obtain⟨hL,h63⟩:=hr.lenT;have HI:=hide (zh0 A n c L S w hr hS);have HT:=hide (fun(W:World) (f:Fr (fun _=>False) w W)=>z3w S A n c L W (hr.fr f (fun k hk=>⟨hS k hk,fun h=>h⟩)) (fun k hk=>Nat.lt_of_lt_of_le (hS k hk) f.size));have HC:=hide (fun(h32:n≤32) (W:World) (f:Fr (fun _=>False) w W)=>zeu A n c L S W (hst.same f) (hr.fr f (fun k hk=>⟨hS k hk,fun h=>h⟩)) (fun k hk=>Nat.lt_of_lt_of_le (hS k hk) f.size) (hz h32));unfold z7k;rw[hL];generalize z8a L=r1 at*;generalize adjA L=r2 at*;generalize L.any badA=r3 at*;clear hL hr hS hz hst;by_cases h32:n≤32
 · have hi:(n:Int)≤32:=by omega
   rw[decide_eq_true h32,Bool.true_and]
   cases r1 with
   |false=>simp only[Bool.false_and];go_enter Tryz.func58,Tryz.ntmps58;go_wp2_with (go_at_call 85;refine HI.out.mono ?_;rintro e w1 ⟨rfl,f1⟩);go_ret;exact⟨rfl,f1⟩
   |true=>
    cases r2 with
    |true=>
     simp only[Bool.true_and,Bool.not_true,Bool.false_and];go_enter Tryz.func58,Tryz.ntmps58
     go_wp2_with (first
      |(go_at_call 85;refine HI.out.mono ?_;rintro e w1 ⟨rfl,f1⟩)
      |(go_at_call 51;refine(HT.out _ f1).mono ?_;rintro e w2 ⟨rfl,f2⟩))
     go_ret;exact⟨rfl,f1.trans f2⟩
    |false=>
     cases r3
     all_goals
      simp only[Bool.true_and,Bool.not_false,Bool.not_true];go_enter Tryz.func58,Tryz.ntmps58
      go_wp2_with (first
       |(go_at_call 85;refine HI.out.mono ?_;rintro e w1 ⟨rfl,f1⟩)
       |(go_at_call 51;refine(HT.out _ f1).mono ?_;rintro e w2 ⟨rfl,f2⟩)
       |(go_at_call 86;refine(HC.out h32 _ (f1.trans f2)).mono ?_;rintro e w3 ⟨rfl,f3⟩))
      go_ret;exact⟨rfl,(f1.trans f2).trans f3⟩
 · have hi:¬(n:Int)≤32:=by omega
   rw[decide_eq_false h32,Bool.false_and];go_enter Tryz.func58,Tryz.ntmps58;go_wp2_with fail;go_ret;exact⟨rfl,Fr.refl _ _⟩
end Go.Proofs.YtnlacmnoocigiaaGreatDoor
namespace Go.Proofs.YtnlacmnoocigiaaGreatDoor
open Go.RowKit Go.Lib
attribute [local go_sem ↓] Go.wp_at_zero Go.wp_at_succ
def zq6 (s:ByteArray):Bool:=decide (s.size=0)
def z6e (x:NodeM):Bool:=(z0l x.name.data.toList).isSome && (z7k x.attrs && (((z0h x.text.data.toList).2==0) && (zq6 x.text|| !z2f x.text.data.toList)))
def zc2 (x:NodeM):Prop:=x.name.size≤1000000∧x.text.size≤1000000∧(x.attrs.length≤32→∀a∈x.attrs,a.1.size≤1000000∧a.2.size≤1000000)
set_option maxRecDepth 100000 in
set_option maxHeartbeats 4000000 in
theorem zq7 (w:World)(x:NodeX)(S:Nat→Prop)(hst:St w)(hx:zuk w S x)(hS:∀k,S k→k<w.heap.size)(hz:zc2 x.model):
 Calls Tryz.prog 31 #[zwn x.v] w fun e w'=>e=.returned (.bool (z6e x.model))∧Fr (fun _=>False) w w':=by
 unfold zwn;obtain⟨⟨xn,xA,xm,xc,xt,xp,xf,xe,xa⟩,xo,xs⟩:=x;have fa:Fr (fun _=>False) w (w.alloc (.cells #[.string xn,.slice xA xm xc,.string xt,.int .i64 xp,.int .i64 xf,.int .i64 xe,.int .i64 xa] 45)):=Fr.alloc (Fr.refl _ _) _;obtain⟨z1,z2,z3⟩:=hz;have HN:=hide (zq4 xn _ (hst.same fa) z1);have HA:=hide (fun(W:World) (f:Fr (fun _=>False) w W)=>zq5 xA xm xc xs S W (hst.same f) (hx.fr f (fun k hk=>⟨hS k hk,fun h=>h⟩)) (fun k hk=>Nat.lt_of_lt_of_le (hS k hk) f.size) (fun h=>z3 (by show xs.length≤32;have:=(show Rd pairC w S (.slice xA xm xc) xs from hx).lenT;omega)));have HV:=hide (fun(W:World) (f:Fr (fun _=>False) w W)=>zdi xt W (hst.same f).ub z2);have z2':xt.size≤1000000:=z2;have HBL:=hide (fun W=>zbt xt W (by omega));have hb:=heap_alloc_new w (.cells #[.string xn,.slice xA xm xc,.string xt,.int .i64 xp,.int .i64 xf,.int .i64 xe,.int .i64 xa] 45);have HB:=hide (fun(W:World) (f:Fr (fun _=>False) (w.alloc (.cells #[.string xn,.slice xA xm xc,.string xt,.int .i64 xp,.int .i64 xf,.int .i64 xe,.int .i64 xa] 45)) W)=>show W.cell? ⟨w.heap.size,1,none⟩=some (.slice xA xm xc)∧W.cell? ⟨w.heap.size,2,none⟩=some (.string xt) from by have g0:=(f.block _ (Array.getElem?_eq_some_iff.1 hb).1 (fun h=>h)).trans hb;exact⟨by rw[cell_of_row _ _ _ _ _ _ g0];rfl,by rw[cell_of_row _ _ _ _ _ _ g0];rfl⟩);have FA:=hide fa;unfold z6e;simp only[NodeX.model];generalize (z0l xn.data.toList).isSome=r1 at*;generalize z7k xs=r2 at*;generalize ((z0h xt.data.toList).2==0)=r3 at*;generalize z2f xt.data.toList=r5 at*;clear fa hb hst hx hS z1 z2 z3
 cases r1 with
 |false=>simp only[Bool.false_and];go_enter Tryz.func31,Tryz.ntmps31;go_wp2_with (go_at_call 57;refine HN.out.mono ?_;rintro e w1 ⟨rfl,f1⟩;obtain⟨y1,y2⟩:=HB.out w1 f1);go_ret;exact⟨rfl,FA.out.trans f1⟩
 |true=>
  cases r2 with
  |false=>
   simp only[Bool.true_and,Bool.false_and];go_enter Tryz.func31,Tryz.ntmps31
   go_wp2_with (first
    |(go_at_call 57;refine HN.out.mono ?_;rintro e w1 ⟨rfl,f1⟩;obtain⟨y1,y2⟩:=HB.out w1 f1)
    |(go_at_call 58;refine(HA.out _ (FA.out.trans f1)).mono ?_;rintro e w2 ⟨rfl,f2⟩;obtain⟨x1,x2⟩:=HB.out w2 (f1.trans f2)))
   go_ret;exact⟨rfl,(FA.out.trans f1).trans f2⟩
  |true=>
   cases r3 with
   |false=>
    simp only[Bool.true_and,Bool.false_and];go_enter Tryz.func31,Tryz.ntmps31
    go_wp2_with (first
     |(go_at_call 57;refine HN.out.mono ?_;rintro e w1 ⟨rfl,f1⟩;obtain⟨y1,y2⟩:=HB.out w1 f1)
     |(go_at_call 58;refine(HA.out _ (FA.out.trans f1)).mono ?_;rintro e w2 ⟨rfl,f2⟩;obtain⟨x1,x2⟩:=HB.out w2 (f1.trans f2))
     |(go_at_call 59;refine(HV.out _ ((FA.out.trans f1).trans f2)).mono ?_;rintro e w3 ⟨rfl,f3⟩;obtain⟨v1,v2⟩:=HB.out w3 ((f1.trans f2).trans f3)))
    go_ret;exact⟨rfl,((FA.out.trans f1).trans f2).trans f3⟩
   |true=>
    simp only[Bool.true_and];by_cases hsz:xt.size=0
    · rw[show zq6 xt=true from decide_eq_true hsz,Bool.true_or];have hxe:xt=⟨#[]⟩:=ByteArray.ext (Array.size_eq_zero_iff.1 hsz);subst hxe;go_enter Tryz.func31,Tryz.ntmps31
      go_wp2_with (first
       |(go_at_call 57;refine HN.out.mono ?_;rintro e w1 ⟨rfl,f1⟩;obtain⟨y1,y2⟩:=HB.out w1 f1)
       |(go_at_call 58;refine(HA.out _ (FA.out.trans f1)).mono ?_;rintro e w2 ⟨rfl,f2⟩;obtain⟨x1,x2⟩:=HB.out w2 (f1.trans f2))
       |(go_at_call 59;refine(HV.out _ ((FA.out.trans f1).trans f2)).mono ?_;rintro e w3 ⟨rfl,f3⟩;obtain⟨v1,v2⟩:=HB.out w3 ((f1.trans f2).trans f3)))
      go_ret;exact⟨rfl,((FA.out.trans f1).trans f2).trans f3⟩
    · rw[show zq6 xt=false from decide_eq_false hsz,Bool.false_or];have hE:=z2c (P:=xt) (by omega);have hE2:=z6d (P:=xt) (by omega);clear hsz;cases r5
      all_goals
       go_enter Tryz.func31,Tryz.ntmps31
       go_wp2_with (first
        |(go_at_call 57;refine HN.out.mono ?_;rintro e w1 ⟨rfl,f1⟩;obtain⟨y1,y2⟩:=HB.out w1 f1)
        |(go_at_call 58;refine(HA.out _ (FA.out.trans f1)).mono ?_;rintro e w2 ⟨rfl,f2⟩;obtain⟨x1,x2⟩:=HB.out w2 (f1.trans f2))
        |(go_at_call 59;refine(HV.out _ ((FA.out.trans f1).trans f2)).mono ?_;rintro e w3 ⟨rfl,f3⟩;obtain⟨v1,v2⟩:=HB.out w3 ((f1.trans f2).trans f3))
        |(go_at_call 53;refine(HBL.out _).mono ?_;rintro e w4 ⟨rfl,f4⟩))
       go_ret;exact⟨rfl,(((FA.out.trans f1).trans f2).trans f3).trans f4⟩
end Go.Proofs.YtnlacmnoocigiaaGreatDoor
