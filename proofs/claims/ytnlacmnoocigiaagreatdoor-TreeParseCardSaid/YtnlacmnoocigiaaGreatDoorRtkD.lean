/- the reference's tokens: tag. -/
import Derived.Test.YtnlacmnoocigiaaGreatDoorRtkC
import Derived.Test.YtnlacmnoocigiaaGreatDoorTokF
namespace Go.Proofs.YtnlacmnoocigiaaGreatDoor
open Go.RowKit Go.Lib
attribute [local go_sem ↓] Go.wp_at_zero Go.wp_at_succ
theorem zw8 :El Tryz.prog 61 132 3 40:=El.mk (.agg #[.string ⟨#[]⟩,.string ⟨#[]⟩,.int .i64 0]) Tryz.underlying61 (by kernel_rfl) rfl
structure RTokAt (w:World)(tb:Nat)(kind:Int)(name:ByteArray)(av:Value)(text:ByteArray)(at_:Int):Prop where
 blk:w.heap[tb]? =some (.cells #[.int .u8 kind,.string name,av,.string text,.int .i64 at_] 63 (0,0))
namespace RTokAt
variable {w w' : World} {tb : Nat} {kind : Int} {name text : ByteArray} {av : Value} {at_ : Int}
theorem fr {fp:Nat→Prop}(h:RTokAt w tb kind name av text at_)(f:Fr fp w w')(hb:¬fp tb):RTokAt w' tb kind name av text at_:=⟨(f.block tb (Array.getElem?_eq_some_iff.1 h.blk).1 hb).trans h.blk⟩
theorem lt (h:RTokAt w tb kind name av text at_):tb<w.heap.size:=(Array.getElem?_eq_some_iff.1 h.blk).1
theorem facts (h:RTokAt w tb kind name av text at_):w.cell? ⟨tb,0,none⟩=some (.int .u8 kind)∧w.cell? ⟨tb,1,none⟩=some (.string name)∧w.cell? ⟨tb,2,none⟩=some av∧w.cell? ⟨tb,3,none⟩=some (.string text)∧w.cell? ⟨tb,4,none⟩=some (.int .i64 at_)∧∀i,w.frozen? ⟨tb,i,none⟩=false:=by
 refine⟨?_, ?_, ?_, ?_, ?_,fun i=>frozen_of_row w tb i _ _ h.blk⟩
 · rw[cell_of_row w tb 0 _ _ _ h.blk];rfl
 · rw[cell_of_row w tb 1 _ _ _ h.blk];rfl
 · rw[cell_of_row w tb 2 _ _ _ h.blk];rfl
 · rw[cell_of_row w tb 3 _ _ _ h.blk];rfl
 · rw[cell_of_row w tb 4 _ _ _ h.blk];rfl
theorem kind_ (h:RTokAt w tb kind name av text at_)(k:Int):RTokAt (w.setCell ⟨tb,0,none⟩ (.int .u8 k)) tb k name av text at_:=⟨heap_setCell_same w tb 0 _ _ _ h.blk⟩
theorem attrs_ (h:RTokAt w tb kind name av text at_)(v:Value):RTokAt (w.setCell ⟨tb,2,none⟩ v) tb kind name v text at_:=⟨heap_setCell_same w tb 2 _ _ _ h.blk⟩
theorem new {w w1:World}{o:Obj}(f:Fr (fun _=>False) (w.alloc o) w1)(h:o=.cells #[.int .u8 kind,.string name,av,.string text,.int .i64 at_] 63 (0,0)):RTokAt w1 w.heap.size kind name av text at_:=⟨by rw[f.block _ (by simp) (fun h=>h),heap_alloc_new,h]⟩
theorem store (h:RTokAt w tb kind name av text at_)(k:Int)(n:ByteArray)(v:Value)(t:ByteArray)(i:Int):
 ∃W,((((w.setCell ⟨tb,0,none⟩ (.int .u8 k)).setCell ⟨tb,1,none⟩ (.string n)).setCell ⟨tb,2,none⟩ v).setCell ⟨tb,3,none⟩ (.string t)).setCell ⟨tb,4,none⟩ (.int .i64 i)=W∧RTokAt W tb k n v t i∧Fr (fun k=>k=tb) w W:=by
 have e1:=heap_setCell_same w tb 0 _ _ (.int .u8 k) h.blk;have e2:=heap_setCell_same _ tb 1 _ _ (.string n) e1;have e3:=heap_setCell_same _ tb 2 _ _ v e2;have e4:=heap_setCell_same _ tb 3 _ _ (.string t) e3;have e5:=heap_setCell_same _ tb 4 _ _ (.int .i64 i) e4;exact⟨_,rfl,⟨e5⟩,((((Fr.set_b w tb 0 _).trans (Fr.set_b _ tb 1 _)).trans (Fr.set_b _ tb 2 _)).trans (Fr.set_b _ tb 3 _)).trans (Fr.set_b _ tb 4 _)⟩
end RTokAt
def RtagPost (l:List UInt8)(p:Nat)(w:World)(e:Ending)(w':World):Prop:=
 Fr (fun _=>False) w w'∧match tagP l with
 |none=>e=.returned (.tuple #[.agg #[.int .u8 0,.string ⟨#[]⟩,.slice none 0 0,.string ⟨#[]⟩,.int .i64 0],.int .i64 0])
 |some (kind,name,ats,k)=>∃A c o,e=.returned (.tuple #[.agg #[.int .u8 kind,.string ⟨name.toArray⟩,.slice A ats.length c,.string ⟨#[]⟩,.int .i64 (p:Int)],.int .i64 (k:Int)])∧
  Own rawC w' 132 (.slice A ats.length c) o (ats.map (rawV p))∧∀x,o=some x→w.heap.size≤x∧x<w'.heap.size
theorem RtagPost.no {l:List UInt8}{p:Nat}{w w':World}(h:tagP l=none)(f:Fr (fun _=>False) w w'):RtagPost l p w (.returned (.tuple #[.agg #[.int .u8 0,.string ⟨#[]⟩,.slice none 0 0,.string ⟨#[]⟩,.int .i64 0],.int .i64 0])) w':=by refine⟨f, ?_⟩;rw[h]
theorem RtagPost.yes {l name:List UInt8}{p kind k:Nat}{ats:List RawA}{w w':World}{nm:ByteArray}{av:Value}{o:Option Nat}{i:Int}(h:tagP l=some (kind,name,ats,k))(f:Fr (fun _=>False) w w')(hn:nm=⟨name.toArray⟩)(hi:i=(k:Int))
 (ho:Own rawC w' 132 av o (ats.map (rawV p))) (hw:∀x,o=some x→w.heap.size≤x∧x<w'.heap.size):
 RtagPost l p w (.returned (.tuple #[.agg #[.int .u8 kind,.string nm,av,.string ⟨#[]⟩,.int .i64 (p:Int)],.int .i64 i])) w':=by
 refine⟨f, ?_⟩;rw[h];obtain⟨A,c,rfl, -, -⟩:=ho.form;rw[List.length_map] at ho⊢;subst hn hi;exact⟨A,c,o,rfl,ho,hw⟩
structure RtagJ (s:ByteArray)(p rb tb:Nat)(nn:ByteArray)(R:Option (Nat×List RawA×Nat))(w w':World)(i:Nat)(av:Value)(acc:List RawA)(o:Option Nat):Prop where
 tok:RTokAt w' tb 1 nn av ⟨#[]⟩ (p:Int)
 box:RTokAt w' rb 0 ⟨#[]⟩ (.slice none 0 0) ⟨#[]⟩ 0
 own:Own rawC w' 132 av o (acc.map (rawV p))
 new:∀k,o=some k→w.heap.size≤k∧k<w'.heap.size∧k≠rb∧k≠tb
 fr:Fr (fun _=>False) w w'
 res:z3v (s.data.toList.drop i) (i - p) acc=R
 le:p≤i
 many:acc.length≤i - p
 news:w.heap.size≤rb∧w.heap.size≤tb∧¬rb=tb
set_option maxRecDepth 100000 in
set_option maxHeartbeats 4000000 in
theorem zlv (s:ByteArray)(p:Nat)(w:World)(hs:s.size≤900000)(hp:p<s.size)(h60:(s.data.toList.drop p)[0]? =some 60)(h47:(s.data.toList.drop p)[1]? =some 47):
 Calls Tryz.prog 41 #[.string s,.int .i64 p] w (RtagPost (s.data.toList.drop p) p w):=by
 have hsz:s.data.toList.length=s.size:=rfl;obtain⟨l,hl⟩:∃l,s.data.toList.drop p=l:=⟨_,rfl⟩;rw[hl] at h60 h47⊢;have hll:l.length=s.size - p:=by rw[←hl,List.length_drop,hsz]
 have hdr:∀n,s.data.toList.drop (p+n)=l.drop n:=fun n=>by rw[←hl,List.drop_drop]
 have h2l:1<l.length:=z4o h47;have hpre:hasPrefix l [60,47]=true:=(z2e _ _ _).2 ⟨h60,h47⟩;have h1:=fun W=>z4m s ⟨#[60,47]⟩ p W (by omega) (by decide) (by omega);rw[hl,show (⟨#[60,47]⟩:ByteArray).data.toList=[60,47] from rfl,hpre] at h1;have H1:=hide h1;obtain⟨sx,hsx⟩:∃sx,s.extract (p+2) s.size=sx:=⟨_,rfl⟩;have hsx':s.extract ((p+2:Nat):Int).toNat s.size=sx:=hsx;have hsxl:sx.data.toList=l.drop 2:=by rw[←hsx,z08,hdr,List.take_of_length_le (by rw[List.length_drop];omega)]
 have hsxz:sx.size≤1000000:=by have:sx.data.toList.length=sx.size:=rfl;rw[hsxl,List.length_drop] at this;omega
 have hsl:∀W:World,(Instr.slice 9 (.string s) (some (.int .i64 ((p:Int)+2))) none none).run Tryz.prog W=.ok (.string sx) W:=fun W=>by have:=run_slice_string_l (P:=Tryz.prog) W 9 s Tryz.underlying9 .i64 ((p+2:Nat):Int) (by omega) (by omega);rw[hsx'] at this;exact this
 obtain⟨n,hn⟩:∃n,z03 (l.drop 2)=n:=⟨_,rfl⟩;have hnl:n≤l.length - 2:=by have:=z1c (l.drop 2);rw[hn,List.length_drop] at this;omega
 obtain⟨n1,hn1⟩:∃n1,nB (l.drop (2+n))=n1:=⟨_,rfl⟩;have hn1l:2+n+n1≤l.length:=by have:=zil (l.drop (2+n));rw[hn1,List.length_drop] at this;omega
 have hb:=fun W=>z9g sx W hsxz;rw[hsxl,hn] at hb;have h2:=fun W=>z62 s (p+2+n) W (by omega) (by omega);rw[show s.data.toList.drop (p+2+n)=l.drop (2+n) by rw[Nat.add_assoc,hdr],hn1] at h2;have h3:=fun W=>z4m s ⟨#[62]⟩ (p+2+n+n1) W (by omega) (by decide) (by omega);rw[show s.data.toList.drop (p+2+n+n1)=l.drop (2+n+n1) by rw[show p+2+n+n1=p+(2+n+n1) by omega,hdr],show (⟨#[62]⟩:ByteArray).data.toList=[62] from rfl] at h3;simp only[Int.natCast_add,Int.cast_ofNat_Int] at h2 h3;have HB:=hide hb;have H2:=hide h2;have hT:=z9l l;rw[if_pos h47,hn,hn1] at hT;have hG:hasPrefix (l.drop (2+n+n1)) [62]=true↔l[2+n+n1]? =some 62:=by rw[z0g,List.getElem?_drop,Nat.add_zero]
 clear hb h2 h1 hsx hsx' hsxl hsxz hpre h2l h60 h47;by_cases hn0:n=0
 · rw[if_pos (.inl hn0)] at hT;have HT:=hide hT;subst hn0;have hsum:p+2+n1≤s.size:=by omega
   have h20:=H2.out;simp only[show ((0:Nat):Int)=0 from rfl,Int.add_zero] at h20;have H20:=hide h20;clear h20;clear hT hG h3 hn1 hn hnl hn1l hl hll hdr hsz;go_enter Tryz.func41,Tryz.ntmps41
   go_wp2_with (first
    |(go_at_call 68;refine(HB.out _).mono ?_;rintro e w1 ⟨rfl,f1⟩;have B1:=hide (RTokAt.new f1 rfl);have F1:=hide f1;obtain⟨p0,p1,p2,p3,p4,p5⟩:=B1.out.facts)
    |(go_at_call 69;with_reducible refine(H20.out _).mono ?_;rintro e w2 ⟨rfl,rfl⟩)
    |(go_at_call 66;with_reducible refine(H1.out _).mono ?_;rintro e w3 ⟨rfl,rfl⟩))
   obtain⟨W,hW,tW,fW⟩:=B1.out.store 0 ⟨#[]⟩ (.slice none 0 0) ⟨#[]⟩ 0;rw[hW];obtain⟨a0,a1,a2,a3,a4,a5⟩:=tW.facts;refine bodyPost_ret (v:=.tuple #[.agg #[.int .u8 0,.string ⟨#[]⟩,.slice none 0 0,.string ⟨#[]⟩,.int .i64 0],.int .i64 0]) (by simp[results,Tryz.results41,go_sem,a0,a1,a2,a3,a4]) rfl ?_;exact RtagPost.no HT.out (F1.out.alloc_then.then_ fW (fun k h1 h2=>by omega))
 · have hn0':((n:Int)==0)=false:=by simp;omega
   have hsum:p+2+n+n1≤s.size:=by omega
   cases hc:hasPrefix (l.drop (2+n+n1)) [62] with
   |false=>
    rw[if_pos (.inr (fun e=>by rw[hG.2 e] at hc;cases hc))] at hT;rw[hc] at h3;have HT:=hide hT;have H3:=hide h3;clear hT hG h3 hn1 hn hnl hn1l hl hll hdr hsz hc hn0;go_enter Tryz.func41,Tryz.ntmps41
    go_wp2_with (first
     |(go_at_call 68;refine(HB.out _).mono ?_;rintro e w1 ⟨rfl,f1⟩;have B1:=hide (RTokAt.new f1 rfl);have F1:=hide f1;obtain⟨p0,p1,p2,p3,p4,p5⟩:=B1.out.facts)
     |(go_at_call 69;with_reducible refine(H2.out _).mono ?_;rintro e w2 ⟨rfl,rfl⟩)
     |(go_at_call 66;with_reducible refine(H1.out _).mono ?_;rintro e w3 ⟨rfl,rfl⟩)
     |(go_at_call 66;with_reducible refine(H3.out _).mono ?_;rintro e w3 ⟨rfl,rfl⟩))
    obtain⟨W,hW,tW,fW⟩:=B1.out.store 0 ⟨#[]⟩ (.slice none 0 0) ⟨#[]⟩ 0;rw[hW];obtain⟨a0,a1,a2,a3,a4,a5⟩:=tW.facts;refine bodyPost_ret (v:=.tuple #[.agg #[.int .u8 0,.string ⟨#[]⟩,.slice none 0 0,.string ⟨#[]⟩,.int .i64 0],.int .i64 0]) (by simp[results,Tryz.results41,go_sem,a0,a1,a2,a3,a4]) rfl ?_;exact RtagPost.no HT.out (F1.out.alloc_then.then_ fW (fun k h1 h2=>by omega))
   |true=>
    have h62:=hG.1 hc;rw[if_neg (fun e=>e.elim hn0 (fun e=>e h62))] at hT;rw[hc] at h3;have H3:=hide h3;obtain⟨nm,hnm⟩:∃nm,s.extract (p+2) (p+2+n)=nm:=⟨_,rfl⟩;have hs1:∀W:World,(Instr.slice 9 (.string s) (some (.int .i64 ((p:Int)+2))) (some (.int .i64 ((p:Int)+2+n))) none).run Tryz.prog W=.ok (.string nm) W:=fun W=>by rw[run_slice_string_if (P:=Tryz.prog) W 9 s .i64 .i64 _ _ Tryz.underlying9,if_pos ⟨by omega,by omega⟩,if_pos ⟨by omega,by omega⟩,←hnm];congr 3
    have hnm2:nm=⟨((l.drop 2).take n).toArray⟩:=by apply ByteArray.ext;apply Array.toList_inj.1;rw[←hnm,z08,hdr,show p+2+n - (p+2)=n by omega]
    have HN:=hide hnm2;have HT:=hide hT;have HI:=hide (show (p:Int)+2+n+n1+1 - p=((2+n+n1+1:Nat):Int) by omega);have hlt:=z4o h62;have hsum2:p+2+n+n1<s.size:=by omega
    clear hT hG h3 hn1 hn hnl hn1l hl hll hdr hsz hc hn0 hnm hnm2 h62 hlt;go_enter Tryz.func41,Tryz.ntmps41
    go_wp2_with (first
     |(go_at_call 68;refine(HB.out _).mono ?_;rintro e w1 ⟨rfl,f1⟩;have B1:=hide (RTokAt.new f1 rfl);have F1:=hide f1;obtain⟨p0,p1,p2,p3,p4,p5⟩:=B1.out.facts)
     |(go_at_call 69;with_reducible refine(H2.out _).mono ?_;rintro e w2 ⟨rfl,rfl⟩)
     |(go_at_call 66;with_reducible refine(H1.out _).mono ?_;rintro e w3 ⟨rfl,rfl⟩)
     |(go_at_call 66;with_reducible refine(H3.out _).mono ?_;rintro e w3 ⟨rfl,rfl⟩))
    obtain⟨W,hW,tW,fW⟩:=B1.out.store 2 nm (.slice none 0 0) ⟨#[]⟩ (p:Int);rw[hW];obtain⟨a0,a1,a2,a3,a4,a5⟩:=tW.facts;refine bodyPost_ret (v:=.tuple #[.agg #[.int .u8 2,.string nm,.slice none 0 0,.string ⟨#[]⟩,.int .i64 (p:Int)],.int .i64 ((p:Int)+2+n+n1+1 - p)]) (by simp[results,Tryz.results41,go_sem,a0,a1,a2,a3,a4]) rfl ?_;exact RtagPost.yes HT.out (F1.out.alloc_then.then_ fW (fun k h1 h2=>by omega)) HN.out HI.out (Own.nil_ _ _ _ _) (fun x hx=>by cases hx)
set_option maxRecDepth 100000 in
set_option maxHeartbeats 4000000 in
theorem zoy (s:ByteArray)(p:Nat)(w:World)(hs:s.size≤900000)(hp:p<s.size)(h47:(s.data.toList.drop p)[1]? ≠some 47):
 Calls Tryz.prog 41 #[.string s,.int .i64 p] w (RtagPost (s.data.toList.drop p) p w):=by
 have hsz:s.data.toList.length=s.size:=rfl;obtain⟨l,hl⟩:∃l,s.data.toList.drop p=l:=⟨_,rfl⟩;rw[hl] at h47⊢;have hll:l.length=s.size - p:=by rw[←hl,List.length_drop,hsz]
 have hdr:∀n,s.data.toList.drop (p+n)=l.drop n:=fun n=>by rw[←hl,List.drop_drop]
 have hpre:hasPrefix l [60,47]=false:=by
  cases h:hasPrefix l [60,47] with
  |false=>rfl
  |true=>exact absurd ((z2e _ _ _).1 h).2 h47
 have h1:=fun W=>z4m s ⟨#[60,47]⟩ p W (by omega) (by decide) (by omega);rw[hl,show (⟨#[60,47]⟩:ByteArray).data.toList=[60,47] from rfl,hpre] at h1;have H1:=hide h1;obtain⟨sx,hsx⟩:∃sx,s.extract (p+1) s.size=sx:=⟨_,rfl⟩;have hsx':s.extract ((p+1:Nat):Int).toNat s.size=sx:=hsx;have hsxl:sx.data.toList=l.drop 1:=by rw[←hsx,z08,hdr,List.take_of_length_le (by rw[List.length_drop];omega)]
 have hsxz:sx.size≤1000000:=by have:sx.data.toList.length=sx.size:=rfl;rw[hsxl,List.length_drop] at this;omega
 have hsl:∀W:World,(Instr.slice 9 (.string s) (some (.int .i64 ((p:Int)+1))) none none).run Tryz.prog W=.ok (.string sx) W:=fun W=>by have:=run_slice_string_l (P:=Tryz.prog) W 9 s Tryz.underlying9 .i64 ((p+1:Nat):Int) (by omega) (by omega);rw[hsx'] at this;exact this
 obtain⟨n,hn⟩:∃n,z03 (l.drop 1)=n:=⟨_,rfl⟩;have hnl:n≤l.length - 1:=by have:=z1c (l.drop 1);rw[hn,List.length_drop] at this;omega
 have hb:=fun W=>z9g sx W hsxz;rw[hsxl,hn] at hb;have HB:=hide hb;have hT:=z9l l;rw[if_neg h47,hn] at hT;clear hb h1 hsx hsx' hsxl hsxz hpre h47;by_cases hn0:n=0
 · rw[if_pos hn0] at hT;have HT:=hide hT;subst hn0;clear hT hn hnl hl hll hdr hsz;go_enter Tryz.func41,Tryz.ntmps41
   go_wp2_with (first
    |(go_at_call 68;refine(HB.out _).mono ?_;rintro e w1 ⟨rfl,f1⟩;have B1:=hide (RTokAt.new f1 rfl);have F1:=hide f1;obtain⟨p0,p1,p2,p3,p4,p5⟩:=B1.out.facts)
    |(go_at_call 66;with_reducible refine(H1.out _).mono ?_;rintro e w3 ⟨rfl,rfl⟩))
   obtain⟨W,hW,tW,fW⟩:=B1.out.store 0 ⟨#[]⟩ (.slice none 0 0) ⟨#[]⟩ 0;rw[hW];obtain⟨a0,a1,a2,a3,a4,a5⟩:=tW.facts;refine bodyPost_ret (v:=.tuple #[.agg #[.int .u8 0,.string ⟨#[]⟩,.slice none 0 0,.string ⟨#[]⟩,.int .i64 0],.int .i64 0]) (by simp[results,Tryz.results41,go_sem,a0,a1,a2,a3,a4]) rfl ?_;exact RtagPost.no HT.out (F1.out.alloc_then.then_ fW (fun k h1 h2=>by omega))
 · have hn0':((n:Int)==0)=false:=by simp;omega
   obtain⟨R,hR⟩:∃R,z3v (l.drop (1+n)) (1+n) []=R:=⟨_,rfl⟩;rw[if_neg hn0,hR] at hT;obtain⟨nm,hnm⟩:∃nm,s.extract (p+1) (p+1+n)=nm:=⟨_,rfl⟩;have hs1:∀W:World,(Instr.slice 9 (.string s) (some (.int .i64 ((p:Int)+1))) (some (.int .i64 ((p:Int)+1+n))) none).run Tryz.prog W=.ok (.string nm) W:=fun W=>by rw[run_slice_string_if (P:=Tryz.prog) W 9 s .i64 .i64 _ _ Tryz.underlying9,if_pos ⟨by omega,by omega⟩,if_pos ⟨by omega,by omega⟩,←hnm];congr 3
   have hnm2:nm=⟨((l.drop 1).take n).toArray⟩:=by apply ByteArray.ext;apply Array.toList_inj.1;rw[←hnm,z08,hdr,show p+1+n - (p+1)=n by omega]
   have HN:=hide hnm2;have HTN:=hide (fun(h:R=none)=>show tagP l=none by rw[hT,h]);have HTS:=hide (fun(kd:Nat) (ats:List RawA) (k:Nat) (h:R=some (kd,ats,k))=>show tagP l=some (kd,(l.drop 1).take n,ats,k) by rw[hT,h]);have hsum:p+1+n≤s.size:=by omega
   have HR:=hide (show z3v (s.data.toList.drop (p+1+n)) (p+1+n - p) []=R by rw[show p+1+n=p+(1+n) by omega,hdr,show p+(1+n) - p=1+n by omega];exact hR);clear hT hR hn hnl hl hll hdr hsz hn0 hnm hnm2;go_enter Tryz.func41,Tryz.ntmps41
   go_wp2_with (first
    |(go_at_call 68;refine(HB.out _).mono ?_;rintro e w1 ⟨rfl,f1⟩;have B1:=hide (RTokAt.new f1 rfl);have F1:=hide f1)
    |(go_at_call 66;with_reducible refine(H1.out _).mono ?_;rintro e w3 ⟨rfl,rfl⟩))
   have hww:=z4z F1.out
   have HJ0:=hide (show RtagJ s p w.heap.size w1.heap.size nm R w (w1.alloc (.cells #[.int .u8 1,.string nm,.slice none 0 0,.string ⟨#[]⟩,.int .i64 (p:Int)] 63)) (p+1+n) (.slice none 0 0) [] none from
    ⟨⟨heap_alloc_new w1 _⟩,B1.out.fr (Fr.alloc (Fr.refl (fun _=>False) _) _) (fun h=>h),Own.nil_ _ _ _ _,fun k hk=>(by cases hk),Fr.alloc F1.out.alloc_then _,HR.out,by omega,by simp,by omega⟩)
   go_loopw [10] (fun iv wr=>∃(i:Nat) (A:Option Addr) (c:Nat) (acc:List RawA) (o:Option Nat),iv=.int .i64 i∧i≤s.size∧Hid (RtagJ s p w.heap.size w1.heap.size nm R w wr i (.slice A acc.length c) acc o)) (fun iv _=>s.size - (Go.RowKit.intOf iv).toNat)
   case atStart=>exact⟨p+1+n,none,0,[],none,by go_num,hsum,HJ0⟩
   case round=>
    obtain⟨i,A,c,acc,o,rfl,hi,hJ⟩:=hrel;obtain⟨l',hl'⟩:∃l',s.data.toList.drop i=l':=⟨_,rfl⟩;have hll':l'.length=s.size - i:=by rw[←hl',List.length_drop];rfl
    have hdr':∀n,s.data.toList.drop (i+n)=l'.drop n:=fun n=>by rw[←hl',List.drop_drop]
    obtain⟨k,hk⟩:∃k,nB l'=k:=⟨_,rfl⟩;have hkl:i+k≤s.size:=by have:=zil l';omega
    have h1:=fun W=>z62 s i W (by omega) hi;rw[hl',hk] at h1;have h2:=fun W=>z4m s ⟨#[62]⟩ (i+k) W (by omega) (by decide) hkl;rw[hdr',show (⟨#[62]⟩:ByteArray).data.toList=[62] from rfl] at h2;have h3:=fun W=>z4m s ⟨#[47,62]⟩ (i+k) W (by omega) (by decide) hkl;rw[hdr',show (⟨#[47,62]⟩:ByteArray).data.toList=[47,62] from rfl] at h3;have h4:=fun W=>zcn s (i+k) W hs hkl;rw[hdr'] at h4;simp only[Int.natCast_add] at h2 h3 h4;have hst:=z2u l' (i - p) acc;have hres:=hJ.out.res;rw[hl'] at hres;rw[hres,hk] at hst;have e1:hasPrefix (l'.drop k) [62]=true↔l'[k]? =some 62:=by rw[z0g,List.getElem?_drop,Nat.add_zero]
    have e2:hasPrefix (l'.drop k) [47,62]=true↔l'[k]? =some 47∧l'[k+1]? =some 62:=by rw[z2e,List.getElem?_drop,List.getElem?_drop,Nat.add_zero]
    have hlep:=hJ.out.le;have B4:=hide h1;clear h1 hres;obtain⟨z0,z1,z2,z3,z4,z5⟩:=hJ.out.tok.facts;obtain⟨y0,y1,y2,y3,y4,y5⟩:=hJ.out.box.facts
    cases c1:hasPrefix (l'.drop k) [62] with
    |true=>
     rw[if_pos (e1.1 c1)] at hst;rw[c1] at h2;have HT:=hide (HTS.out _ _ _ hst);have H2:=hide h2;have hlt:=z2y c1;rw[List.length_drop] at hlt;simp only[List.length_cons,List.length_nil] at hlt;have HI:=hide (show (i:Int)+k+1 - p=((i - p+k+1:Nat):Int) by omega);have hsum2:i+k<s.size:=by omega
     clear hst h2 h3 h4 e1 e2 c1 hl' hll' hdr' hk hlt
     go_wp2_with (first
      |(go_at_call 69;with_reducible refine(B4.out _).mono ?_;rintro e w2 ⟨rfl,rfl⟩)
      |(go_at_call 66;with_reducible refine(H2.out _).mono ?_;rintro e w3 ⟨rfl,rfl⟩))
     obtain⟨W,hW,tW,fW⟩:=hJ.out.box.store 1 nm (.slice A acc.length c) ⟨#[]⟩ (p:Int);rw[hW];obtain⟨a0,a1,a2,a3,a4,a5⟩:=tW.facts;refine bodyPost_ret (v:=.tuple #[.agg #[.int .u8 1,.string nm,.slice A acc.length c,.string ⟨#[]⟩,.int .i64 (p:Int)],.int .i64 ((i:Int)+k+1 - p)]) (by simp[results,Tryz.results41,go_sem,a0,a1,a2,a3,a4]) rfl ?_;exact RtagPost.yes HT.out (hJ.out.fr.then_ fW (fun k h1 h2=>by omega)) HN.out HI.out (hJ.out.own.fr fW (fun k hk=>(hJ.out.new k hk).2.2.1)) (fun x hx=>⟨(hJ.out.new x hx).1,Nat.lt_of_lt_of_le (hJ.out.new x hx).2.1 fW.size⟩)
    |false=>
     rw[if_neg (fun e=>by rw[e1.2 e] at c1;cases c1)] at hst;rw[c1] at h2;have H2:=hide h2
     cases c2:hasPrefix (l'.drop k) [47,62] with
     |true=>
      rw[if_pos (e2.1 c2)] at hst;rw[c2] at h3;have HT:=hide (HTS.out _ _ _ hst);have H3:=hide h3;have hlt:=z2y c2;rw[List.length_drop] at hlt;simp only[List.length_cons,List.length_nil] at hlt;have HI:=hide (show (i:Int)+k+2 - p=((i - p+k+2:Nat):Int) by omega);have hsum2:i+k+1<s.size:=by omega
      have hnn:=hJ.out.news;have TK:=hide (hJ.out.tok.kind_ 3);have BK:=hide (hJ.out.box.fr (Fr.set_b wr w1.heap.size 0 (.int .u8 3)) hnn.2.2);obtain⟨q0,q1,q2,q3,q4,q5⟩:=TK.out.facts;obtain⟨r0,r1,r2,r3,r4,r5⟩:=BK.out.facts;clear hst h2 h3 h4 e1 e2 c1 c2 hl' hll' hdr' hk hlt
      go_wp2_with (first
       |(go_at_call 69;with_reducible refine(B4.out _).mono ?_;rintro e w2 ⟨rfl,rfl⟩)
       |(go_at_call 66;with_reducible refine(H2.out _).mono ?_;rintro e w3 ⟨rfl,rfl⟩)
       |(go_at_call 66;with_reducible refine(H3.out _).mono ?_;rintro e w3 ⟨rfl,rfl⟩))
      obtain⟨W,hW,tW,fW⟩:=BK.out.store 3 nm (.slice A acc.length c) ⟨#[]⟩ (p:Int);rw[hW];obtain⟨a0,a1,a2,a3,a4,a5⟩:=tW.facts;refine bodyPost_ret (v:=.tuple #[.agg #[.int .u8 3,.string nm,.slice A acc.length c,.string ⟨#[]⟩,.int .i64 (p:Int)],.int .i64 ((i:Int)+k+2 - p)]) (by simp[results,Tryz.results41,go_sem,a0,a1,a2,a3,a4]) rfl ?_;have f2:=Fr.set_b wr w1.heap.size 0 (.int .u8 3);exact RtagPost.yes HT.out ((hJ.out.fr.then_ f2 (fun k h1 h2=>by omega)).then_ fW (fun k h1 h2=>by omega)) HN.out HI.out ((hJ.out.own.fr f2 (fun k hk=>(hJ.out.new k hk).2.2.2)).fr fW (fun k hk=>(hJ.out.new k hk).2.2.1)) (fun x hx=>⟨(hJ.out.new x hx).1,Nat.lt_of_lt_of_le (Nat.lt_of_lt_of_le (hJ.out.new x hx).2.1 f2.size) fW.size⟩)
     |false=>
      rw[if_neg (fun e=>by rw[e2.2 e] at c2;cases c2)] at hst;rw[c2] at h3;have H3:=hide h3;by_cases c3:k=0∨l'.length≤k
      · rw[if_pos c3] at hst;have HT:=hide (HTN.out hst)
        have hpat:k=0∨(((k:Int)==0)=false∧(s.size:Int)≤(i:Int)+k):=by
         by_cases hk0:k=0
         · exact .inl hk0
         · refine .inr ⟨by simp;omega, ?_⟩;rcases c3 with c3|c3<;>omega
        clear hst h2 h3 h4 e1 e2 c1 c2 c3 hl' hll' hdr' hk;rcases hpat with rfl|⟨hk0,hge⟩
        · have h20:=H2.out;have h30:=H3.out;simp only[show ((0:Nat):Int)=0 from rfl,Int.add_zero] at h20 h30;have HX2:=hide h20;have HX3:=hide h30;clear h20 h30
          go_wp2_with (first
           |(go_at_call 69;with_reducible refine(B4.out _).mono ?_;rintro e w2 ⟨rfl,rfl⟩)
           |(go_at_call 66;with_reducible refine(HX2.out _).mono ?_;rintro e w3 ⟨rfl,rfl⟩)
           |(go_at_call 66;with_reducible refine(HX3.out _).mono ?_;rintro e w3 ⟨rfl,rfl⟩))
          obtain⟨W,hW,tW,fW⟩:=hJ.out.box.store 0 ⟨#[]⟩ (.slice none 0 0) ⟨#[]⟩ 0;rw[hW];obtain⟨a0,a1,a2,a3,a4,a5⟩:=tW.facts;refine bodyPost_ret (v:=.tuple #[.agg #[.int .u8 0,.string ⟨#[]⟩,.slice none 0 0,.string ⟨#[]⟩,.int .i64 0],.int .i64 0]) (by simp[results,Tryz.results41,go_sem,a0,a1,a2,a3,a4]) rfl ?_;exact RtagPost.no HT.out (hJ.out.fr.then_ fW (fun k h1 h2=>by omega))
        · have HX2:=hide H2.out;have HX3:=hide H3.out
          go_wp2_with (first
           |(go_at_call 69;with_reducible refine(B4.out _).mono ?_;rintro e w2 ⟨rfl,rfl⟩)
           |(go_at_call 66;with_reducible refine(HX2.out _).mono ?_;rintro e w3 ⟨rfl,rfl⟩)
           |(go_at_call 66;with_reducible refine(HX3.out _).mono ?_;rintro e w3 ⟨rfl,rfl⟩))
          obtain⟨W,hW,tW,fW⟩:=hJ.out.box.store 0 ⟨#[]⟩ (.slice none 0 0) ⟨#[]⟩ 0;rw[hW];obtain⟨a0,a1,a2,a3,a4,a5⟩:=tW.facts;refine bodyPost_ret (v:=.tuple #[.agg #[.int .u8 0,.string ⟨#[]⟩,.slice none 0 0,.string ⟨#[]⟩,.int .i64 0],.int .i64 0]) (by simp[results,Tryz.results41,go_sem,a0,a1,a2,a3,a4]) rfl ?_;exact RtagPost.no HT.out (hJ.out.fr.then_ fW (fun k h1 h2=>by omega))
      · rw[if_neg c3] at hst;have hk0:((k:Int)==0)=false:=by simp;omega
        have hlt:(i:Int)+k<s.size:=by omega
        have hge:¬(s.size:Int)≤(i:Int)+k:=by omega
        cases ha:z1p (l'.drop k) with
        |none=>
         rw[ha] at hst;have HT:=hide (HTN.out hst);unfold zd9 at h4;rw[ha] at h4;have H4:=hide h4;clear hst h2 h3 h4 e1 e2 c1 c2 c3 hl' hll' hdr' hk ha
         go_wp2_with (first
          |(go_at_call 69;with_reducible refine(B4.out _).mono ?_;rintro e w2 ⟨rfl,rfl⟩)
          |(go_at_call 66;with_reducible refine(H2.out _).mono ?_;rintro e w3 ⟨rfl,rfl⟩)
          |(go_at_call 66;with_reducible refine(H3.out _).mono ?_;rintro e w3 ⟨rfl,rfl⟩)
          |(go_at_call 70;with_reducible refine(H4.out _).mono ?_;rintro e w2 ⟨rfl,f2⟩;have F2:=hide (f2.alloc (.cells #[.string ⟨#[]⟩,.string ⟨#[]⟩,.int .i64 0] 132));have B2:=hide (hJ.out.box.fr F2.out (fun h=>h));obtain⟨r0,r1,r2,r3,r4,r5⟩:=B2.out.facts))
         obtain⟨W,hW,tW,fW⟩:=B2.out.store 0 ⟨#[]⟩ (.slice none 0 0) ⟨#[]⟩ 0;rw[hW];obtain⟨a0,a1,a2,a3,a4,a5⟩:=tW.facts;refine bodyPost_ret (v:=.tuple #[.agg #[.int .u8 0,.string ⟨#[]⟩,.slice none 0 0,.string ⟨#[]⟩,.int .i64 0],.int .i64 0]) (by simp[results,Tryz.results41,go_sem,a0,a1,a2,a3,a4]) rfl ?_;exact RtagPost.no HT.out ((hJ.out.fr.trans F2.out).then_ fW (fun k h1 h2=>by omega))
        |some x=>
         obtain⟨a,m⟩:=x;rw[ha] at hst;simp only at hst;have ham:=z5o ha;rw[List.length_drop] at ham;unfold zd9 at h4;rw[ha] at h4;simp only at h4;obtain⟨xn,hxn⟩:∃xn:ByteArray,(⟨a.name.toArray⟩:ByteArray)=xn:=⟨_,rfl⟩;obtain⟨xv,hxv⟩:∃xv:ByteArray,(⟨a.value.toArray⟩:ByteArray)=xv:=⟨_,rfl⟩;obtain⟨xi,hxi⟩:∃xi:Int,((i+k+a.off:Nat):Int)=xi:=⟨_,rfl⟩;rw[hxn,hxv,hxi] at h4;have hm0:((m:Int)==0)=false:=by simp;omega
         have hraw:rawV p ⟨a.name,a.value,i - p+k+a.off⟩=⟨xn,xv,xi⟩:=by unfold rawV;simp only;rw[hxn,hxv,←hxi];congr 2;omega
         have H4:=hide h4;have hmany:=hJ.out.many;have HLEN:=hide (show acc.length≤1000000 by omega);have hnn:=hJ.out.news;have hms:i+k+m≤s.size:=by omega
         have HEND:=hide (fun(W:World) (v':Value) (o':Option Nat) (t':RTokAt W w1.heap.size 1 nm v' ⟨#[]⟩ (p:Int)) (b':RTokAt W w.heap.size 0 ⟨#[]⟩ (.slice none 0 0) ⟨#[]⟩ 0) (m':Own rawC W 132 v' o' (acc.map (rawV p)++[⟨xn,xv,xi⟩]))
          (n':∀k,o'=some k→w.heap.size≤k∧k<W.heap.size∧k≠w.heap.size∧k≠w1.heap.size) (f':Fr (fun _=>False) w W)=>
          show RtagJ s p w.heap.size w1.heap.size nm R w W (i+k+m) v' (acc++[⟨a.name,a.value,i - p+k+a.off⟩]) o' from
          ⟨t',b',by rw[List.map_append,List.map_cons,List.map_nil,hraw];exact m',n',f',
           by rw[show i+k+m=i+(k+m) by omega,hdr',show i+(k+m) - p=i - p+k+m by omega];exact hst.symm,
           by omega,by rw[List.length_append];simp only[List.length_cons,List.length_nil];omega,hnn⟩)
         have hm1:0<m:=ham.1;clear hst h2 h3 h4 e1 e2 c1 c2 c3 hl' hll' hdr' hk ha hxn hxv hxi hraw hmany ham
         go_wp2_with (first
          |(go_at_call 69;with_reducible refine(B4.out _).mono ?_;rintro e w2 ⟨rfl,rfl⟩)
          |(go_at_call 66;with_reducible refine(H2.out _).mono ?_;rintro e w3 ⟨rfl,rfl⟩)
          |(go_at_call 66;with_reducible refine(H3.out _).mono ?_;rintro e w3 ⟨rfl,rfl⟩)
          |(go_at_call 70;with_reducible refine(H4.out _).mono ?_;rintro e w2 ⟨rfl,f2⟩;have F2:=hide (f2.alloc (.cells #[.string xn,.string xv,.int .i64 xi] 132));obtain⟨x0,x1,x2,x3,x4,x5⟩:=(hJ.out.tok.fr F2.out (fun h=>h)).facts;have q2:=hide (hJ.out.own.fr f2 (fun _ _ h=>h)))
          |(at_builtin;(refine z0d rfl rfl zw8 (by rfl) (by rfl) (q2.out.fr (Fr.alloc (Fr.alloc (Fr.refl (fun _=>False) w2) _) _) (fun _ _ h=>h)) (zpb w2 _ ⟨xn,xv,xi⟩ _) (by have:=HLEN.out;simp;omega) ?_);intro B1' d1 w4 o4 m4 g4 n4;
            have F3:=hide (F2.out.alloc (.cells #[.string xn,.string xv,.int .i64 xi] 132));have hob:¬o=some w.heap.size:=(fun e=>(hJ.out.new _ e).2.2.1 rfl);have hot:¬o=some w1.heap.size:=(fun e=>(hJ.out.new _ e).2.2.2 rfl);
            have T4:=hide ((hJ.out.tok.fr F3.out (fun h=>h)).fr g4 hot);obtain⟨u0,u1,u2,u3,u4,u5⟩:=T4.out.facts))
         have hs2:=F3.out.size;have hsr:=hJ.out.fr.size;have own4:Own rawC w4 132 (.slice B1' (acc.length+1) d1) o4 (acc.map (rawV p)++[⟨xn,xv,xi⟩]):=by simpa using m4
         have hw1:=hJ.out.tok.lt;have hF3:w2.heap.size+1+1=((w2.alloc (.cells #[.string xn,.string xv,.int .i64 xi] 132)).alloc (.cells #[.string xn,.string xv,.int .i64 xi] 132)).heap.size:=by simp
         have hn4:∀x,o4=some x→o=some x∨(wr.heap.size≤x∧x<w4.heap.size):=fun x hx=>(n4 x hx).imp id (fun h=>⟨by omega,h.2⟩);have hrl:=hJ.out.box.lt;have hs4:=g4.size;go_roundw
         case rel=>
          have fT:=Fr.set_b w4 w1.heap.size 2 (.slice B1' (acc.length+1) d1);have hsT:=fT.size;refine⟨i+k+m,B1',d1,acc++[⟨a.name,a.value,i - p+k+a.off⟩],o4,by go_num,hms,hide ?_⟩;have hl1:(acc++[(⟨a.name,a.value,i - p+k+a.off⟩:RawA)]).length=acc.length+1:=by simp
          rw[hl1];refine HEND.out _ _ _ (T4.out.attrs_ _) (((hJ.out.box.fr F3.out (fun h=>h)).fr g4 hob).fr fT hnn.2.2) (own4.fr fT (fun x hx e=> ?_)) (fun x hx=> ?_) (((hJ.out.fr.trans F3.out).then_ g4 (fun x h1 h2=>by have:=(hJ.out.new x h2).1;omega)).then_ fT (fun x h1 h2=>by omega))
          · rcases hn4 x hx with h|h
            · exact(hJ.out.new x h).2.2.2 e
            · omega
          · rcases hn4 x hx with h|h
            · have:=hJ.out.new x h;exact⟨this.1,by omega,this.2.2.1,this.2.2.2⟩
            · exact⟨by omega,by omega,by omega,by omega⟩
         case measure=>simp[Go.RowKit.intOf];omega
theorem zk7 (s:ByteArray)(p:Nat)(w:World)(hs:s.size≤900000)(hp:p<s.size)(h60:(s.data.toList.drop p)[0]? =some 60):
 Calls Tryz.prog 41 #[.string s,.int .i64 p] w (RtagPost (s.data.toList.drop p) p w):=by
 by_cases h47:(s.data.toList.drop p)[1]? =some 47
 · exact zlv s p w hs hp h60 h47
 · exact zoy s p w hs hp h47
end Go.Proofs.YtnlacmnoocigiaaGreatDoor
