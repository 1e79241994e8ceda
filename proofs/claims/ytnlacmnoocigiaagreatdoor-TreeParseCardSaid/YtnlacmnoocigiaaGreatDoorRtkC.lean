/- the reference's tokens: attribute. -/
import Derived.Test.YtnlacmnoocigiaaGreatDoorRtkAb
import Derived.Test.YtnlacmnoocigiaaGreatDoorTokAb
namespace Go.Proofs.YtnlacmnoocigiaaGreatDoor
open Go.RowKit Go.Lib
attribute [local go_sem ↓] Go.wp_at_zero Go.wp_at_succ
theorem box3 {w:World}{B:Nat}{x y z:Value}{t:Nat}(h:w.heap[B]? =some (.cells #[x,y,z] t (0,0)))(u0 u1 u2:Value):
 ∃W,((w.setCell ⟨B,0,none⟩ u0).setCell ⟨B,1,none⟩ u1).setCell ⟨B,2,none⟩ u2=W∧W.cell? ⟨B,0,none⟩=some u0∧W.cell? ⟨B,1,none⟩=some u1∧W.cell? ⟨B,2,none⟩=some u2∧Fr (fun k=>k=B) w W:=by
 have e1:=heap_setCell_same w B 0 _ _ u0 h;have e2:=heap_setCell_same _ B 1 _ _ u1 e1;have e3:=heap_setCell_same _ B 2 _ _ u2 e2;refine⟨_,rfl, ?_, ?_, ?_,((Fr.set_b w B 0 u0).trans (Fr.set_b _ B 1 u1)).trans (Fr.set_b _ B 2 u2)⟩
 · rw[cell_of_row _ B 0 _ _ _ e3];rfl
 · rw[cell_of_row _ B 1 _ _ _ e3];rfl
 · rw[cell_of_row _ B 2 _ _ _ e3];rfl
theorem z2d {w:World}{B:Nat}{x y z:Value}{t:Nat}(h:w.heap[B]? =some (.cells #[x,y,z] t (0,0))):
 w.cell? ⟨B,0,none⟩=some x∧w.cell? ⟨B,1,none⟩=some y∧w.cell? ⟨B,2,none⟩=some z∧(∀i,w.frozen? ⟨B,i,none⟩=false):=by
 refine⟨?_, ?_, ?_,fun i=>frozen_of_row w B i _ _ h⟩
 · rw[cell_of_row w B 0 _ _ _ h];rfl
 · rw[cell_of_row w B 1 _ _ _ h];rfl
 · rw[cell_of_row w B 2 _ _ _ h];rfl
theorem z49 {w w1:World}{o:Obj}(f:Fr (fun _=>False) (w.alloc o) w1):w1.heap[w.heap.size]? =some o:=by rw[f.block _ (by simp) (fun h=>h)];exact heap_alloc_new w _
def zd9 (l:List UInt8)(p:Nat):Value:=match z1p l with
 |some (a,k)=>.tuple #[.agg #[.string ⟨a.name.toArray⟩,.string ⟨a.value.toArray⟩,.int .i64 ((p+a.off:Nat):Int)],.int .i64 (k:Int)]
 |none=>.tuple #[.agg #[.string ⟨#[]⟩,.string ⟨#[]⟩,.int .i64 0],.int .i64 0]
theorem zox {l:List UInt8}{q:UInt8}{l5:List UInt8}(h0:0<z03 l)(h1:hasPrefix (z4t l) [61]=true)(h2:z2s l=q::l5)(c1:q=34∨q=39)(c2:q∈l5)(c3:(60:UInt8) ∉ l5.takeWhile (· !=q)):
 z1p l=some (⟨l.take (z03 l),l5.takeWhile (· !=q),z2x l+1⟩,z2x l+1+(l5.takeWhile (· !=q)).length+1):=by
 have hE:l[z03 l+nB (l.drop (z03 l))]? =some 61:=by rw[z0g] at h1;unfold z4t at h1;rw[List.getElem?_drop,List.getElem?_drop,Nat.add_zero] at h1;exact h1
 exact attrP_iff.2 ⟨q,l5,h0,hE,by rw[←z7h];exact h2,c1,c2,c3,rfl,rfl⟩
theorem zbp {q:UInt8}:∀{l:List UInt8},z2t [q] l=if q∈l then some (l.takeWhile (· !=q)).length else none
 |[]=>rfl
 |b::l=>by
  rw[zd8,List.takeWhile_cons];by_cases hb:b=q
  · subst hb;rw[if_pos ((z0g _ _).2 rfl),if_pos (List.mem_cons_self ..),if_neg (by simp)];rfl
  · have hn:¬hasPrefix (b::l) [q]=true:=by rw[z0g];intro h;exact hb (Option.some.inj h)
    have ht:(if(b !=q)=true then b::l.takeWhile (· !=q) else [])=b::l.takeWhile (· !=q):=if_pos (by simpa using hb);rw[if_neg hn,zbp (l:=l),ht];by_cases hq:q∈l
    · rw[if_pos (List.mem_cons_of_mem _ hq),if_pos hq];rfl
    · rw[if_neg (show ¬q∈b::l by intro h;rcases List.mem_cons.1 h with h|h;exact hb h.symm;exact hq h),if_neg hq];rfl
theorem z4a :∀(l:List UInt8) (f:UInt8→Bool),l.take (l.takeWhile f).length=l.takeWhile f
 |[],_=>rfl
 |b::l,f=>by
  rw[List.takeWhile_cons];split
  · rw[List.length_cons,List.take_succ_cons,z4a l f]
  · rfl
set_option maxRecDepth 100000 in
set_option maxHeartbeats 4000000 in
theorem zcn (s:ByteArray)(p:Nat)(w:World)(hs:s.size≤900000)(hp:p≤s.size):
 Calls Tryz.prog 70 #[.string s,.int .i64 p] w fun e w'=>e=.returned (zd9 (s.data.toList.drop p) p)∧Fr (fun _=>False) w w':=by
 have hsz:s.data.toList.length=s.size:=rfl;obtain⟨l,hl⟩:∃l,s.data.toList.drop p=l:=⟨_,rfl⟩;have hll:l.length=s.size - p:=by rw[←hl,List.length_drop,hsz]
 have hdr:∀n,s.data.toList.drop (p+n)=l.drop n:=fun n=>by rw[←hl,List.drop_drop]
 obtain⟨k,hk⟩:∃k,z03 l=k:=⟨_,rfl⟩;have hkl:k≤l.length:=by have:=z1c l;omega
 obtain⟨n1,hn1⟩:∃n1,nB (l.drop k)=n1:=⟨_,rfl⟩;have hn1l:k+n1≤l.length:=by have:=zil (l.drop k);rw[hn1,List.length_drop] at this;omega
 obtain⟨sx,hsx⟩:∃sx,s.extract p s.size=sx:=⟨_,rfl⟩;have hsxl:sx.data.toList=l:=by rw[←hsx,z08,←hl,List.take_of_length_le (by rw[List.length_drop,hsz];omega)]
 have hsxz:sx.size≤1000000:=by have:sx.data.toList.length=sx.size:=rfl;rw[hsxl] at this;omega
 have hsl:∀W:World,(Instr.slice 9 (.string s) (some (.int .i64 (p:Int))) none none).run Tryz.prog W=.ok (.string sx) W:=fun W=>by rw[run_slice_string_l (P:=Tryz.prog) W 9 s Tryz.underlying9 .i64 p (by omega) (by omega),←hsx];congr 2
 have hb:=fun W=>z9g sx W hsxz;rw[hsxl,hk] at hb;have h1:=fun W=>z62 s (p+k) W (by omega) (by omega);rw[hdr,hn1] at h1;have h2:=fun W=>z4m s ⟨#[61]⟩ (p+k+n1) W (by omega) (by decide) (by omega);have hpe:s.data.toList.drop (p+k+n1)=z4t l:=by unfold z4t;rw[hk,hn1,List.drop_drop,Nat.add_assoc,hdr]
 rw[hpe,show (⟨#[61]⟩:ByteArray).data.toList=[61] from rfl] at h2;simp only[Int.natCast_add,Int.cast_ofNat_Int] at h1 h2;have HB:=hide hb;have H1:=hide h1;have hsum:p+k+n1≤s.size:=by omega
 obtain⟨V,hV⟩:∃V,zd9 l p=V:=⟨_,rfl⟩;rw[hl,hV];have HNO:=hide (fun(h:z1p l=none)=>show V=.tuple #[.agg #[.string ⟨#[]⟩,.string ⟨#[]⟩,.int .i64 0],.int .i64 0] by rw[←hV];unfold zd9;rw[h]);clear hb h1 hsx;rcases zbr l with ⟨hk0,hno⟩|⟨hk0,hp0,hno⟩|hrest
 · obtain rfl:V=_:=HNO.out hno;have hk1:k=0:=by omega
   subst hk1;clear hno hk0 hk hV hl hdr hn1 hn1l h2 hpe hll hkl hsz hsxl hsxz HNO;go_enter Tryz.func70,Tryz.ntmps70
   go_wp2_with (first
    |(go_at_call 68;refine(HB.out _).mono ?_;rintro e w1 ⟨rfl,f1⟩;have B1:=hide (z49 f1);have F1:=hide f1;obtain⟨p0,p1,p2,p3⟩:=z2d B1.out)
    |(go_at_call 69;refine(H1.out _).mono ?_;rintro e w2 ⟨rfl,rfl⟩))
   obtain⟨W,hW,a0,a1,a2,fW⟩:=box3 B1.out (.string ⟨#[]⟩) (.string ⟨#[]⟩) (.int .i64 0);rw[hW];refine bodyPost_ret (v:=.tuple #[.agg #[.string ⟨#[]⟩,.string ⟨#[]⟩,.int .i64 0],.int .i64 0]) (by simp[results,Tryz.results70,go_sem,a0,a1,a2]) rfl ?_;exact⟨rfl,F1.out.alloc_then.then_ fW (fun k h1 h2=>by omega)⟩
 · obtain rfl:V=_:=HNO.out hno;rw[hp0] at h2;have hk0':((k:Int)==0)=false:=by simp;omega
   have H2:=hide h2;clear hno hp0 hk hV hl hdr hn1 hn1l h2 hpe hll hkl hsz hsxl hsxz HNO;go_enter Tryz.func70,Tryz.ntmps70
   go_wp2_with (first
    |(go_at_call 68;refine(HB.out _).mono ?_;rintro e w1 ⟨rfl,f1⟩;have B1:=hide (z49 f1);have F1:=hide f1;obtain⟨p0,p1,p2,p3⟩:=z2d B1.out)
    |(go_at_call 69;with_reducible refine(H1.out _).mono ?_;rintro e w2 ⟨rfl,rfl⟩)
    |(go_at_call 66;with_reducible refine(H2.out _).mono ?_;rintro e w3 ⟨rfl,rfl⟩))
   obtain⟨W,hW,a0,a1,a2,fW⟩:=box3 B1.out (.string ⟨#[]⟩) (.string ⟨#[]⟩) (.int .i64 0);rw[hW];refine bodyPost_ret (v:=.tuple #[.agg #[.string ⟨#[]⟩,.string ⟨#[]⟩,.int .i64 0],.int .i64 0]) (by simp[results,Tryz.results70,go_sem,a0,a1,a2]) rfl ?_;exact⟨rfl,F1.out.alloc_then.then_ fW (fun k h1 h2=>by omega)⟩
 · have hk0:0<k:=by rcases hrest with ⟨h,_⟩|⟨_,_,h,_⟩<;>omega
   have hp0:hasPrefix (z4t l) [61]=true:=by rcases hrest with ⟨_,h,_⟩|⟨_,_,_,h,_⟩<;>exact h
   have hk0':((k:Int)==0)=false:=by simp;omega
   rw[hp0] at h2;have H2:=hide h2;have hpl:=z2y hp0;have hpl2:p+k+n1+1≤s.size:=by rw[←hpe,List.length_drop,hsz] at hpl;simp only[List.length_cons,List.length_nil] at hpl;omega
   obtain⟨n2,hn2⟩:∃n2,nB ((z4t l).drop 1)=n2:=⟨_,rfl⟩;have hd3:s.data.toList.drop (p+k+n1+1)=(z4t l).drop 1:=by rw[←hpe,List.drop_drop]
   have h3:=fun W=>z62 s (p+k+n1+1) W (by omega) hpl2;rw[hd3,hn2] at h3;have hn2l:p+k+n1+1+n2≤s.size:=by have:=zil ((z4t l).drop 1);rw[hn2,←hd3,List.length_drop,hsz] at this;omega
   have hd4:s.data.toList.drop (p+k+n1+1+n2)=z2s l:=by unfold z2s;rw[hn2,←hd3,List.drop_drop]
   have hma:z2x l=k+n1+1+n2:=by unfold z4t at hn2;unfold z2x;rw[hk,hn1] at hn2⊢;rw[←hn2,List.drop_drop,List.drop_drop];simp only[Nat.add_assoc]
   have h4:=fun W=>z4m s ⟨#[39]⟩ (p+k+n1+1+n2) W (by omega) (by decide) hn2l;have h5:=fun W=>z4m s ⟨#[34]⟩ (p+k+n1+1+n2) W (by omega) (by decide) hn2l;rw[hd4,show (⟨#[39]⟩:ByteArray).data.toList=[39] from rfl] at h4;rw[hd4,show (⟨#[34]⟩:ByteArray).data.toList=[34] from rfl] at h5;simp only[Int.natCast_add,Int.cast_ofNat_Int] at h3 h4 h5;have H3:=hide h3;by_cases hnq:hasPrefix (z2s l) [39]=false∧hasPrefix (z2s l) [34]=false
   · have hno:z1p l=none:=by
      rcases hrest with ⟨_,_,_,h⟩|⟨q,l5,_,_,hm,hc⟩
      · exact h
      · rcases hc with ⟨_,h⟩|⟨hq,_⟩
        · exact h
        · rw[hm] at hnq;rcases hq with rfl|rfl
          · have:=(z0g (34::l5) 34).2 rfl;rw[hnq.2] at this;cases this
          · have:=(z0g (39::l5) 39).2 rfl;rw[hnq.1] at this;cases this
     obtain rfl:V=_:=HNO.out hno;rw[hnq.1] at h4;rw[hnq.2] at h5;have H4:=hide h4;have H5:=hide h5;clear hno hp0 hk hV hl hdr hn1 hn1l h2 hpe hll hkl hsz hsxl hsxz HNO hrest hpl hn2 hd3 hd4 h3 h4 h5 hnq hma;go_enter Tryz.func70,Tryz.ntmps70
     go_wp2_with (first
      |(go_at_call 68;refine(HB.out _).mono ?_;rintro e w1 ⟨rfl,f1⟩;have B1:=hide (z49 f1);have F1:=hide f1;obtain⟨p0,p1,p2,p3⟩:=z2d B1.out)
      |(go_at_call 69;with_reducible refine(H1.out _).mono ?_;rintro e w2 ⟨rfl,rfl⟩)
      |(go_at_call 66;with_reducible refine(H2.out _).mono ?_;rintro e w3 ⟨rfl,rfl⟩)
      |(go_at_call 69;with_reducible refine(H3.out _).mono ?_;rintro e w2 ⟨rfl,rfl⟩)
      |(go_at_call 66;with_reducible refine(H4.out _).mono ?_;rintro e w3 ⟨rfl,rfl⟩)
      |(go_at_call 66;with_reducible refine(H5.out _).mono ?_;rintro e w3 ⟨rfl,rfl⟩))
     obtain⟨W,hW,a0,a1,a2,fW⟩:=box3 B1.out (.string ⟨#[]⟩) (.string ⟨#[]⟩) (.int .i64 0);rw[hW];refine bodyPost_ret (v:=.tuple #[.agg #[.string ⟨#[]⟩,.string ⟨#[]⟩,.int .i64 0],.int .i64 0]) (by simp[results,Tryz.results70,go_sem,a0,a1,a2]) rfl ?_;exact⟨rfl,F1.out.alloc_then.then_ fW (fun k h1 h2=>by omega)⟩
   · obtain⟨q,l5,hm,hq,hcase⟩:∃q l5,z2s l=q::l5∧(q=34∨q=39)∧((q ∉ l5∧z1p l=none)∨(q∈l5∧(((60:UInt8)∈l5.takeWhile (· !=q)∧z1p l=none)∨(60:UInt8) ∉ l5.takeWhile (· !=q)))):=by
      rcases hrest with ⟨_,_,hm,_⟩|⟨q,l5,_,_,hm,hc⟩
      · rw[hm] at hnq;exact absurd ⟨rfl,rfl⟩ hnq
      · refine⟨q,l5,hm, ?_⟩;rcases hc with ⟨hq,_⟩|⟨hq,hc⟩
        · refine absurd ⟨?_, ?_⟩ hnq
          · rw[hm]
            cases hx:hasPrefix (q::l5) [39] with
            |false=>rfl
            |true=>exact absurd (.inr (Option.some.inj ((z0g _ _).1 hx))) hq
          · rw[hm]
            cases hx:hasPrefix (q::l5) [34] with
            |false=>rfl
            |true=>exact absurd (.inl (Option.some.inj ((z0g _ _).1 hx))) hq
        · refine⟨hq, ?_⟩;rcases hc with h|⟨h,h'|⟨h',_⟩⟩
          · exact .inl h
          · exact .inr ⟨h,.inl h'⟩
          · exact .inr ⟨h,.inr h'⟩
     have hlt:p+k+n1+1+n2<s.size:=by have:=congrArg List.length (hd4.trans hm);rw[List.length_drop,hsz,List.length_cons] at this;omega
     have hd6:s.data.toList.drop (p+k+n1+1+n2+1)=l5:=by rw[←List.drop_drop,hd4,hm];rfl
     have hslq:∀W:World,(Instr.slice 9 (.string s) (some (.int .i64 ((p:Int)+k+n1+1+n2))) (some (.int .i64 ((p:Int)+k+n1+1+n2+1))) none).run Tryz.prog W=.ok (.string ⟨#[q]⟩) W:=fun W=>by rw[run_slice_string_if (P:=Tryz.prog) W 9 s .i64 .i64 _ _ Tryz.underlying9,if_pos ⟨by omega,by omega⟩,if_pos ⟨by omega,by omega⟩];congr 2;apply ByteArray.ext;apply Array.toList_inj.1;rw[z08,show ((p:Int)+k+n1+1+n2).toNat=p+k+n1+1+n2 by omega,hd4,hm,show ((p:Int)+k+n1+1+n2+1).toNat - (p+k+n1+1+n2)=1 by omega];rfl
     have h6:=fun W=>zal s ⟨#[q]⟩ (p+k+n1+1+n2+1) W (by omega) (show 1≤1000000 by decide) (by omega);rw[hd6,show (⟨#[q]⟩:ByteArray).data.toList=[q] from rfl] at h6;unfold zbo at h6;rw[zbp] at h6;rw[hm] at h4 h5
     have hb:(hasPrefix (q::l5) [39]=true)∨(hasPrefix (q::l5) [39]=false∧hasPrefix (q::l5) [34]=true):=by
      rcases hq with rfl|rfl
      · right;refine⟨?_,(z0g _ _).2 rfl⟩
        cases hx:hasPrefix (34::l5) [39] with
        |false=>rfl
        |true=>cases (Option.some.inj ((z0g _ _).1 hx))
      · exact .inl ((z0g _ _).2 rfl)
     rcases hcase with ⟨c2,hno⟩|⟨c2,hcase⟩
     · obtain rfl:V=_:=HNO.out hno;rw[if_neg c2] at h6;simp only[Int.natCast_add,Int.cast_ofNat_Int] at h6;have H6:=hide h6;rcases hb with hb|⟨hb,hb'⟩
       · rw[hb] at h4;have H4:=hide h4;clear hno hp0 hk hV hl hdr hn1 hn1l h2 hpe hll hkl hsz hsxl hsxz HNO hrest hpl hn2 hd3 hd4 h3 h4 h5 hnq hma hb h6 hd6 hm hq c2;go_enter Tryz.func70,Tryz.ntmps70
         go_wp2_with (first
          |(go_at_call 68;refine(HB.out _).mono ?_;rintro e w1 ⟨rfl,f1⟩;have B1:=hide (z49 f1);have F1:=hide f1;obtain⟨p0,p1,p2,p3⟩:=z2d B1.out)
          |(go_at_call 69;with_reducible refine(H1.out _).mono ?_;rintro e w2 ⟨rfl,rfl⟩)
          |(go_at_call 66;with_reducible refine(H2.out _).mono ?_;rintro e w3 ⟨rfl,rfl⟩)
          |(go_at_call 69;with_reducible refine(H3.out _).mono ?_;rintro e w2 ⟨rfl,rfl⟩)
          |(go_at_call 66;with_reducible refine(H4.out _).mono ?_;rintro e w3 ⟨rfl,rfl⟩)
           |(go_at_call 38;with_reducible refine(H6.out _).mono ?_;rintro e w3 ⟨rfl,rfl⟩))
         obtain⟨W,hW,a0,a1,a2,fW⟩:=box3 B1.out (.string ⟨#[]⟩) (.string ⟨#[]⟩) (.int .i64 0);rw[hW];refine bodyPost_ret (v:=.tuple #[.agg #[.string ⟨#[]⟩,.string ⟨#[]⟩,.int .i64 0],.int .i64 0]) (by simp[results,Tryz.results70,go_sem,a0,a1,a2]) rfl ?_;exact⟨rfl,F1.out.alloc_then.then_ fW (fun k h1 h2=>by omega)⟩
       · rw[hb] at h4;rw[hb'] at h5;have H4:=hide h4;have H5:=hide h5;clear hno hp0 hk hV hl hdr hn1 hn1l h2 hpe hll hkl hsz hsxl hsxz HNO hrest hpl hn2 hd3 hd4 h3 h4 h5 hnq hma hb hb' h6 hd6 hm hq c2;go_enter Tryz.func70,Tryz.ntmps70
         go_wp2_with (first
          |(go_at_call 68;refine(HB.out _).mono ?_;rintro e w1 ⟨rfl,f1⟩;have B1:=hide (z49 f1);have F1:=hide f1;obtain⟨p0,p1,p2,p3⟩:=z2d B1.out)
          |(go_at_call 69;with_reducible refine(H1.out _).mono ?_;rintro e w2 ⟨rfl,rfl⟩)
          |(go_at_call 66;with_reducible refine(H2.out _).mono ?_;rintro e w3 ⟨rfl,rfl⟩)
          |(go_at_call 69;with_reducible refine(H3.out _).mono ?_;rintro e w2 ⟨rfl,rfl⟩)
          |(go_at_call 66;with_reducible refine(H4.out _).mono ?_;rintro e w3 ⟨rfl,rfl⟩)
          |(go_at_call 66;with_reducible refine(H5.out _).mono ?_;rintro e w3 ⟨rfl,rfl⟩)
          |(go_at_call 38;with_reducible refine(H6.out _).mono ?_;rintro e w3 ⟨rfl,rfl⟩))
         obtain⟨W,hW,a0,a1,a2,fW⟩:=box3 B1.out (.string ⟨#[]⟩) (.string ⟨#[]⟩) (.int .i64 0);rw[hW];refine bodyPost_ret (v:=.tuple #[.agg #[.string ⟨#[]⟩,.string ⟨#[]⟩,.int .i64 0],.int .i64 0]) (by simp[results,Tryz.results70,go_sem,a0,a1,a2]) rfl ?_;exact⟨rfl,F1.out.alloc_then.then_ fW (fun k h1 h2=>by omega)⟩
     · rw[if_pos c2] at h6;simp only at h6;obtain⟨m,hml⟩:∃m,(l5.takeWhile (· !=q)).length=m:=⟨_,rfl⟩;have hmlt:m<l5.length:=hml ▸ z65 c2;rw[hml] at h6;obtain⟨en,hen⟩:∃en,p+k+n1+1+n2+1+m=en:=⟨_,rfl⟩;have hens:en<s.size:=by have:=congrArg List.length hd6;rw[List.length_drop,hsz] at this;omega
       rw[hen] at h6;obtain⟨E,hEE⟩:∃E:Int,(en:Int)=E:=⟨_,rfl⟩;rw[hEE] at h6;simp only[Int.natCast_add,Int.cast_ofNat_Int] at h6;have H6:=hide h6;have hE0:¬E<0:=by omega
       have hget:∀j,p+k+n1+1+n2+1≤j→j<en→∀hj:j<s.size,(l5.takeWhile (· !=q))[j - (p+k+n1+1+n2+1)]? =some (s[j]'hj):=by
        intro j hj1 hj2 hj;have h1:l5[j - (p+k+n1+1+n2+1)]? =some (s[j]'hj):=by rw[←hd6,List.getElem?_drop,show p+k+n1+1+n2+1+(j - (p+k+n1+1+n2+1))=j by omega];exact z0y s j hj
        rw[←List.take_append_drop m l5,List.getElem?_append_left (by rw[List.length_take];omega)] at h1;rw[←h1];congr 1;rw[←hml];exact(z4a l5 _).symm
       rcases hcase with ⟨c3,hno⟩|c3
       · obtain rfl:V=_:=HNO.out hno;obtain⟨i0,hi1,hi3,hi2⟩:∃i0,p+k+n1+1+n2+1≤i0∧i0<en∧∀h:i0<s.size,(s[i0]'h)=60:=by obtain⟨i,hi,he⟩:=List.getElem_of_mem c3;rw[hml] at hi;refine⟨p+k+n1+1+n2+1+i,by omega,by omega,fun h=> ?_⟩;have:=hget _ (by omega) (by omega) h;rw[show p+k+n1+1+n2+1+i - (p+k+n1+1+n2+1)=i by omega,List.getElem?_eq_getElem (by omega),he] at this;exact(Option.some.inj this).symm
         clear hget hno c3;rcases hb with hb|⟨hb,hb'⟩
         · rw[hb] at h4;have H4:=hide h4;clear hp0 hk hV hl hdr hn1 hn1l h2 hpe hll hkl hsz hsxl hsxz HNO hrest hpl hn2 hd3 hd4 h3 h4 h5 hnq hma hb h6 hd6 hm hq c2 hml;go_enter Tryz.func70,Tryz.ntmps70
           go_wp2_with (first
            |(go_at_call 68;refine(HB.out _).mono ?_;rintro e w1 ⟨rfl,f1⟩;have B1:=hide (z49 f1);have F1:=hide f1;obtain⟨p0,p1,p2,p3⟩:=z2d B1.out)
            |(go_at_call 69;with_reducible refine(H1.out _).mono ?_;rintro e w2 ⟨rfl,rfl⟩)
            |(go_at_call 66;with_reducible refine(H2.out _).mono ?_;rintro e w3 ⟨rfl,rfl⟩)
            |(go_at_call 69;with_reducible refine(H3.out _).mono ?_;rintro e w2 ⟨rfl,rfl⟩)
            |(go_at_call 66;with_reducible refine(H4.out _).mono ?_;rintro e w3 ⟨rfl,rfl⟩)
            |(go_at_call 38;with_reducible refine(H6.out _).mono ?_;rintro e w3 ⟨rfl,rfl⟩))
           go_loop [9] (fun n=>∃j:Nat,n=.int .i64 j∧p+k+n1+1+n2+1≤j∧j≤i0) (fun n=>s.size - (Go.RowKit.intOf n).toNat)
           case atStart=>exact⟨p+k+n1+1+n2+1,by go_num,by omega,hi1⟩
           case round=>
            obtain⟨j,rfl,hj1,hj2⟩:=hrel;have hjs:j<s.size:=by omega
            have hje:(j:Int)<E:=by omega
            have hidx:∀W:World,(Instr.index 9 (.string s) (.int .i64 (j:Int))).run Tryz.prog W=.ok (.int .u8 ((s[j]'hjs).toNat:Int)) W:=fun W=>by rw[run_index_string (P:=Tryz.prog) W 9 s .i64 _ Tryz.underlying9,dif_pos ⟨by omega,by omega⟩];simp only[Int.toNat_natCast]
            cases hB:(((s[j]'hjs).toNat:Int)==60) with
            |true=>
             go_wp2_with fail
             obtain⟨W,hW,a0,a1,a2,fW⟩:=box3 B1.out (.string ⟨#[]⟩) (.string ⟨#[]⟩) (.int .i64 0);rw[hW];refine bodyPost_ret (v:=.tuple #[.agg #[.string ⟨#[]⟩,.string ⟨#[]⟩,.int .i64 0],.int .i64 0]) (by simp[results,Tryz.results70,go_sem,a0,a1,a2]) rfl ?_;exact⟨rfl,F1.out.alloc_then.then_ fW (fun k h1 h2=>by omega)⟩
            |false=>
             have hne:j≠i0:=by rintro rfl;rw[hi2] at hB;cases hB
             go_wp2_with fail
             go_round
             case rel=>exact⟨j+1,by go_num,by omega,by omega⟩
             case measure=>simp[Go.RowKit.intOf];omega
         · rw[hb] at h4;rw[hb'] at h5;have H4:=hide h4;have H5:=hide h5;clear hp0 hk hV hl hdr hn1 hn1l h2 hpe hll hkl hsz hsxl hsxz HNO hrest hpl hn2 hd3 hd4 h3 h4 h5 hnq hma hb hb' h6 hd6 hm hq c2 hml;go_enter Tryz.func70,Tryz.ntmps70
           go_wp2_with (first
            |(go_at_call 68;refine(HB.out _).mono ?_;rintro e w1 ⟨rfl,f1⟩;have B1:=hide (z49 f1);have F1:=hide f1;obtain⟨p0,p1,p2,p3⟩:=z2d B1.out)
            |(go_at_call 69;with_reducible refine(H1.out _).mono ?_;rintro e w2 ⟨rfl,rfl⟩)
            |(go_at_call 66;with_reducible refine(H2.out _).mono ?_;rintro e w3 ⟨rfl,rfl⟩)
            |(go_at_call 69;with_reducible refine(H3.out _).mono ?_;rintro e w2 ⟨rfl,rfl⟩)
            |(go_at_call 66;with_reducible refine(H4.out _).mono ?_;rintro e w3 ⟨rfl,rfl⟩)
            |(go_at_call 66;with_reducible refine(H5.out _).mono ?_;rintro e w3 ⟨rfl,rfl⟩)
            |(go_at_call 38;with_reducible refine(H6.out _).mono ?_;rintro e w3 ⟨rfl,rfl⟩))
           go_loop [9] (fun n=>∃j:Nat,n=.int .i64 j∧p+k+n1+1+n2+1≤j∧j≤i0) (fun n=>s.size - (Go.RowKit.intOf n).toNat)
           case atStart=>exact⟨p+k+n1+1+n2+1,by go_num,by omega,hi1⟩
           case round=>
            obtain⟨j,rfl,hj1,hj2⟩:=hrel;have hjs:j<s.size:=by omega
            have hje:(j:Int)<E:=by omega
            have hidx:∀W:World,(Instr.index 9 (.string s) (.int .i64 (j:Int))).run Tryz.prog W=.ok (.int .u8 ((s[j]'hjs).toNat:Int)) W:=fun W=>by rw[run_index_string (P:=Tryz.prog) W 9 s .i64 _ Tryz.underlying9,dif_pos ⟨by omega,by omega⟩];simp only[Int.toNat_natCast]
            cases hB:(((s[j]'hjs).toNat:Int)==60) with
            |true=>
             go_wp2_with fail
             obtain⟨W,hW,a0,a1,a2,fW⟩:=box3 B1.out (.string ⟨#[]⟩) (.string ⟨#[]⟩) (.int .i64 0);rw[hW];refine bodyPost_ret (v:=.tuple #[.agg #[.string ⟨#[]⟩,.string ⟨#[]⟩,.int .i64 0],.int .i64 0]) (by simp[results,Tryz.results70,go_sem,a0,a1,a2]) rfl ?_;exact⟨rfl,F1.out.alloc_then.then_ fW (fun k h1 h2=>by omega)⟩
            |false=>
             have hne:j≠i0:=by rintro rfl;rw[hi2] at hB;cases hB
             go_wp2_with fail
             go_round
             case rel=>exact⟨j+1,by go_num,by omega,by omega⟩
             case measure=>simp[Go.RowKit.intOf];omega
       · obtain⟨nm,hnm⟩:∃nm,s.extract p (p+k)=nm:=⟨_,rfl⟩;obtain⟨vv,hvv⟩:∃vv,s.extract (p+k+n1+1+n2+1) en=vv:=⟨_,rfl⟩;have hs1:∀W:World,(Instr.slice 9 (.string s) (some (.int .i64 (p:Int))) (some (.int .i64 ((p:Int)+k))) none).run Tryz.prog W=.ok (.string nm) W:=fun W=>by rw[run_slice_string_if (P:=Tryz.prog) W 9 s .i64 .i64 _ _ Tryz.underlying9,if_pos ⟨by omega,by omega⟩,if_pos ⟨by omega,by omega⟩,←hnm];congr 3
         have hs2:∀W:World,(Instr.slice 9 (.string s) (some (.int .i64 ((p:Int)+k+n1+1+n2+1))) (some (.int .i64 E)) none).run Tryz.prog W=.ok (.string vv) W:=fun W=>by rw[run_slice_string_if (P:=Tryz.prog) W 9 s .i64 .i64 _ _ Tryz.underlying9,if_pos ⟨by omega,by omega⟩,if_pos ⟨by omega,by omega⟩,←hvv,←hEE];congr 3
         have HY:=hide (show V=.tuple #[.agg #[.string nm,.string vv,.int .i64 ((p:Int)+k+n1+1+n2+1)],.int .i64 (E+1 - p)] by
          have hy:=zox (l:=l) (by omega) hp0 hm hq c2 c3;rw[←hV];unfold zd9;rw[hy];simp only[hml,hma,hk];have e1:nm=⟨(l.take k).toArray⟩:=by apply ByteArray.ext;apply Array.toList_inj.1;rw[←hnm,z08,hl,show p+k - p=k by omega]
          have e2:vv=⟨(l5.takeWhile (· !=q)).toArray⟩:=by apply ByteArray.ext;apply Array.toList_inj.1;rw[←hvv,z08,hd6,show en - (p+k+n1+1+n2+1)=m by omega,←hml];exact z4a l5 _
          rw[e1,e2,show ((p+(k+n1+1+n2+1):Nat):Int)=(p:Int)+k+n1+1+n2+1 by omega,show ((k+n1+1+n2+1+m+1:Nat):Int)=E+1 - p by omega])
         have HALL:=hide (fun(j:Nat) (h1:p+k+n1+1+n2+1≤j) (h2:j<en) (hj:j<s.size)=>show (((s[j]'hj).toNat:Int)==60)=false by
          have h3:=List.mem_of_getElem? (hget j h1 h2 hj)
          cases hx:(((s[j]'hj).toNat:Int)==60) with
          |false=>rfl
          |true=>have:s[j]'hj=60:=UInt8.toNat_inj.1 (by have:=beq_iff_eq.1 hx;show _=60;omega);exact absurd (this ▸ h3) c3)
         clear hget c3;rcases hb with hb|⟨hb,hb'⟩
         · rw[hb] at h4;have H4:=hide h4;clear hp0 hk hV hl hdr hn1 hn1l h2 hpe hll hkl hsz hsxl hsxz HNO hrest hpl hn2 hd3 hd4 h3 h4 h5 hnq hma hb h6 hd6 hm hq c2 hml;go_enter Tryz.func70,Tryz.ntmps70
           go_wp2_with (first
            |(go_at_call 68;refine(HB.out _).mono ?_;rintro e w1 ⟨rfl,f1⟩;have B1:=hide (z49 f1);have F1:=hide f1;obtain⟨p0,p1,p2,p3⟩:=z2d B1.out)
            |(go_at_call 69;with_reducible refine(H1.out _).mono ?_;rintro e w2 ⟨rfl,rfl⟩)
            |(go_at_call 66;with_reducible refine(H2.out _).mono ?_;rintro e w3 ⟨rfl,rfl⟩)
            |(go_at_call 69;with_reducible refine(H3.out _).mono ?_;rintro e w2 ⟨rfl,rfl⟩)
            |(go_at_call 66;with_reducible refine(H4.out _).mono ?_;rintro e w3 ⟨rfl,rfl⟩)
            |(go_at_call 38;with_reducible refine(H6.out _).mono ?_;rintro e w3 ⟨rfl,rfl⟩))
           go_loop [9] (fun n=>∃j:Nat,n=.int .i64 j∧p+k+n1+1+n2+1≤j∧j≤en) (fun n=>s.size - (Go.RowKit.intOf n).toNat)
           case atStart=>exact⟨p+k+n1+1+n2+1,by go_num,by omega,by omega⟩
           case round=>
            obtain⟨j,rfl,hj1,hj2⟩:=hrel;by_cases hjl:j<en
            · have hjs:j<s.size:=by omega
              have hje:(j:Int)<E:=by omega
              have hidx:∀W:World,(Instr.index 9 (.string s) (.int .i64 (j:Int))).run Tryz.prog W=.ok (.int .u8 ((s[j]'hjs).toNat:Int)) W:=fun W=>by rw[run_index_string (P:=Tryz.prog) W 9 s .i64 _ Tryz.underlying9,dif_pos ⟨by omega,by omega⟩];simp only[Int.toNat_natCast]
              have hB:(((s[j]'hjs).toNat:Int)==60)=false:=HALL.out j hj1 hjl hjs;go_wp2_with fail;go_round
              case rel=>exact⟨j+1,by go_num,by omega,by omega⟩
              case measure=>simp[Go.RowKit.intOf];omega
            · obtain rfl:j=en:=by omega
              have hje:¬(j:Int)<E:=by omega
              have hd:decide ((j:Int)<E)=false:=decide_eq_false hje;go_wp2_with fail;go_region;obtain⟨W2,hW2,a0,a1,a2,fW⟩:=box3 B1.out (.string nm) (.string vv) (.int .i64 ((p:Int)+k+n1+1+n2+1));rw[hW2];go_wp2_with fail;refine bodyPost_ret (v:=.tuple #[.agg #[.string nm,.string vv,.int .i64 ((p:Int)+k+n1+1+n2+1)],.int .i64 (E+1 - p)]) (by simp[results,Tryz.results70,go_sem,a0,a1,a2]) rfl ?_;exact⟨by rw[HY.out],Fr.drew (F1.out.alloc_then.then_ fW (fun k h1 h2=>by omega))⟩
         · rw[hb] at h4;rw[hb'] at h5;have H4:=hide h4;have H5:=hide h5;clear hp0 hk hV hl hdr hn1 hn1l h2 hpe hll hkl hsz hsxl hsxz HNO hrest hpl hn2 hd3 hd4 h3 h4 h5 hnq hma hb hb' h6 hd6 hm hq c2 hml;go_enter Tryz.func70,Tryz.ntmps70
           go_wp2_with (first
            |(go_at_call 68;refine(HB.out _).mono ?_;rintro e w1 ⟨rfl,f1⟩;have B1:=hide (z49 f1);have F1:=hide f1;obtain⟨p0,p1,p2,p3⟩:=z2d B1.out)
            |(go_at_call 69;with_reducible refine(H1.out _).mono ?_;rintro e w2 ⟨rfl,rfl⟩)
            |(go_at_call 66;with_reducible refine(H2.out _).mono ?_;rintro e w3 ⟨rfl,rfl⟩)
            |(go_at_call 69;with_reducible refine(H3.out _).mono ?_;rintro e w2 ⟨rfl,rfl⟩)
            |(go_at_call 66;with_reducible refine(H4.out _).mono ?_;rintro e w3 ⟨rfl,rfl⟩)
            |(go_at_call 66;with_reducible refine(H5.out _).mono ?_;rintro e w3 ⟨rfl,rfl⟩)
            |(go_at_call 38;with_reducible refine(H6.out _).mono ?_;rintro e w3 ⟨rfl,rfl⟩))
           go_loop [9] (fun n=>∃j:Nat,n=.int .i64 j∧p+k+n1+1+n2+1≤j∧j≤en) (fun n=>s.size - (Go.RowKit.intOf n).toNat)
           case atStart=>exact⟨p+k+n1+1+n2+1,by go_num,by omega,by omega⟩
           case round=>
            obtain⟨j,rfl,hj1,hj2⟩:=hrel;by_cases hjl:j<en
            · have hjs:j<s.size:=by omega
              have hje:(j:Int)<E:=by omega
              have hidx:∀W:World,(Instr.index 9 (.string s) (.int .i64 (j:Int))).run Tryz.prog W=.ok (.int .u8 ((s[j]'hjs).toNat:Int)) W:=fun W=>by rw[run_index_string (P:=Tryz.prog) W 9 s .i64 _ Tryz.underlying9,dif_pos ⟨by omega,by omega⟩];simp only[Int.toNat_natCast]
              have hB:(((s[j]'hjs).toNat:Int)==60)=false:=HALL.out j hj1 hjl hjs;go_wp2_with fail;go_round
              case rel=>exact⟨j+1,by go_num,by omega,by omega⟩
              case measure=>simp[Go.RowKit.intOf];omega
            · obtain rfl:j=en:=by omega
              have hje:¬(j:Int)<E:=by omega
              have hd:decide ((j:Int)<E)=false:=decide_eq_false hje;go_wp2_with fail;go_region;obtain⟨W2,hW2,a0,a1,a2,fW⟩:=box3 B1.out (.string nm) (.string vv) (.int .i64 ((p:Int)+k+n1+1+n2+1));rw[hW2];go_wp2_with fail;refine bodyPost_ret (v:=.tuple #[.agg #[.string nm,.string vv,.int .i64 ((p:Int)+k+n1+1+n2+1)],.int .i64 (E+1 - p)]) (by simp[results,Tryz.results70,go_sem,a0,a1,a2]) rfl ?_;exact⟨by rw[HY.out],Fr.drew (F1.out.alloc_then.then_ fW (fun k h1 h2=>by omega))⟩
end Go.Proofs.YtnlacmnoocigiaaGreatDoor
