/- tree: Parse. -/
import Derived.Test.YtnlacmnoocigiaaGreatDoorTreL
import Derived.Test.YtnlacmnoocigiaaGreatDoorTreGt
import Derived.Laws.EntriesVeiled
namespace Go.Proofs.YtnlacmnoocigiaaGreatDoor
open Go.RowKit Go.Lib
attribute [local go_sem ↓] Go.wp_at_zero Go.wp_at_succ
structure NodeL (w:World)(base:Nat)(v:Value)(o:Option Nat)(X:List NodeX):Prop where
 own:Own nodeC w 45 v o (X.map (·.v))
 ok:∀x∈X,NodeOk w x
 new:∀k,o=some k→base≤k∧k<w.heap.size
 newa:∀x∈X,∀k,x.oa=some k→base≤k∧k<w.heap.size∧o≠some k
theorem NodeL.nil_ (w:World)(base:Nat):NodeL w base (.slice none 0 0) none []:=⟨Own.nil_ _ _ _ _,fun x hx=>(by cases hx),fun k hk=>(by cases hk),fun x hx=>(by cases hx)⟩
def ParsePost (s:ByteArray)(w:World)(e:Ending)(w':World):Prop:=∃A c o X,e=.returned (.tuple #[.agg #[.slice A X.length c],.int .i64 (z2v s.data.toList).2.1,.int .i64 (z2v s.data.toList).2.2])∧NodeL w' w.heap.size (.slice A X.length c) o X∧X.map (·.model)=(z2v s.data.toList).1∧Fr (fun _=>False) w w'
theorem ParsePost.err {s:ByteArray}{w w':World}{p er:Int}(h:z2v s.data.toList=([],p,er))(f:Fr (fun _=>False) w w'):ParsePost s w (.returned (.tuple #[.agg #[.slice none 0 0],.int .i64 p,.int .i64 er])) w':=⟨none,0,none,[],by rw[h];rfl,NodeL.nil_ _ _,by rw[h];rfl,f⟩
structure ParseJ (w1 wr:World)(b:Nat)(T:List Tok)(i:Nat)(st:BldM):Prop where
 sb:BldS wr b b st
 iv:Inv st
 sz:∀t∈st.texts,t.size≤sumT (T.take i)
 run:runM initM T=runM st (T.drop i)
 fr:Fr (fun k=>b≤k) w1 wr
theorem ziw {b:BldM}{x:Tok}{e:Int}(h:z1l b x=.inr e):e≠0:=by
 have hop:∀e,z0n b x=.inr e→e≠0:=by
  intro e h;unfold z0n at h;split at h
  · cases h;decide
  · split at h
    · cases h;decide
    · cases h
 unfold z1l at h;split at h
 · exact hop e h
 · split at h
   · unfold z1r at h;split at h
     · cases h;decide
     · cases h
   · split at h
     · unfold z4r at h
       cases ho:z0n b x with
       |inl b2=>rw[ho] at h;cases h
       |inr e2=>rw[ho] at h;cases h;exact hop _ ho
     · unfold z6k at h;split at h
       · cases h
       · split at h
         · cases h
         · cases h;decide
theorem zq1 {W:World}{b:Nat}{st:BldM}{x:Tok}{A:Option Addr}{c:Nat}{S:Nat→Prop}(h:OpS W b b st x A c S){c0:Nat}(hsz:∀t∈st.texts,t.size≤c0)(hc:c0+x.text.length≤300000):
 (x.kind=1→Calls Tryz.prog 24 #[.pointer (some ⟨b,0,none⟩),tokA x A (z01 x).length c] W (z10 W b b (z1l st x)))∧
 (x.kind=2→Calls Tryz.prog 25 #[.pointer (some ⟨b,0,none⟩),tokA x A (z01 x).length c] W (z10 W b b (z1l st x)))∧
 (x.kind=3→Calls Tryz.prog 26 #[.pointer (some ⟨b,0,none⟩),tokA x A (z01 x).length c] W (z10 W b b (z1l st x)))∧
 (x.kind=4→Calls Tryz.prog 27 #[.pointer (some ⟨b,0,none⟩),tokA x A (z01 x).length c] W (z10 W b b (z1l st x))):=by
 have ht:=zpz hsz;refine⟨fun hk=> ?_,fun hk=> ?_,fun hk=> ?_,fun hk=> ?_⟩
 · rw[zdj hk];exact zgz W b b st x A c S h
 · rw[zc6 hk];exact zm5 W b b st h.hb h.iv x A _ c (by omega)
 · rw[zh4 hk];exact zq0 W b b st x A c S h
 · rw[zdk hk];exact ztm W b b st h.hb h.iv x A _ c h.bw (by omega) (by omega)
theorem zq2 (w:World)(o:Obj):BldS ((w.alloc o).alloc (.cells #[.slice none 0 0,.slice none 0 0,.slice none 0 0,.int .i64 (-1),.int .i64 0] 74)) (w.heap.size+1) (w.heap.size+1) initM:=by have hb:=heap_alloc_new (w.alloc o) (.cells #[.slice none 0 0,.slice none 0 0,.slice none 0 0,.int .i64 (-1),.int .i64 0] 74);simp only[World.size_alloc] at hb;exact⟨.slice none 0 0,.slice none 0 0,.slice none 0 0,none,none,none,[],⟨hb,Nat.le_refl _,Own.nil_ _ _ _ _,fun x hx=>(by cases hx),Own.nil_ _ _ _ _,Own.nil_ _ _ _ _,fun k hk=>(by cases hk),fun k hk=>(by cases hk),fun k hk=>(by cases hk),fun x hx=>(by cases hx)⟩,rfl⟩
set_option maxRecDepth 100000 in
set_option maxHeartbeats 8000000 in
theorem z7j (s:ByteArray)(w:World)(hst:St w)(hs63:s.size≤9223372036854775807):Calls Tryz.prog 7 #[.string s] w (ParsePost s w):=by
 have fa:Fr (fun _=>False) w (w.alloc (.cells #[.slice none 0 0] 31)):=Fr.alloc (Fr.refl _ _) _;have HTK:=hide (zlz s (w.alloc (.cells #[.slice none 0 0] 31)) (hst.same fa));obtain⟨P,hP⟩:∃P,z2v s.data.toList=P:=⟨_,rfl⟩;by_cases he:(tokR s.data.toList).2.2=0
 · have HSP:=hide (show ∀(W:World),True from fun _=>trivial);unfold TokensPost at HTK;have FA:=hide fa;have HFX:=hide (z7i he);have hTR:z2v s.data.toList=finM s.size (runM initM (tokR s.data.toList).1):=by unfold z2v;rw[if_neg (fun h=>h he)];rfl
   have HTR:=hide hTR;rw[he] at HTK;clear hTR he;generalize ((tokR s.data.toList).2.1)=pl at*;generalize ((tokR s.data.toList).1)=T at*;clear fa hP hst;have hb0:=heap_alloc_new w (.cells #[.slice none 0 0] 31);have HC:=hide (fun(W:World) (f:Fr (fun _=>False) (w.alloc (.cells #[.slice none 0 0] 31)) W)=>show W.heap[w.heap.size]? =some (.cells #[.slice none 0 0] 31 (0,0)) from by rw[f.block _ (by simp) (fun h=>h)];exact hb0);clear hb0;go_enter Tryz.func7,Tryz.ntmps7;go_wp2_with (go_at_call 23;refine HTK.out.mono ?_;rintro e w1 ⟨A,c,o,X,rfl,tl,hm,f1⟩;have HTL:=hide tl;have HM:=hide hm;have HF1:=hide f1;clear tl hm f1);have hXn:X.length≤65536:=by have h1:=HFX.out.2.2;rw[←HM.out,List.length_map] at h1;exact h1
   have HS0:=hide (zq2 w1 (.cells #[.nilFunc,.func (.func 24) #[] #[],.func (.func 25) #[] #[],.func (.func 26) #[] #[],.func (.func 27) #[] #[]] 72));have HF0:=hide (show Fr (fun _=>False) w1 ((w1.alloc (.cells #[.nilFunc,.func (.func 24) #[] #[],.func (.func 25) #[] #[],.func (.func 26) #[] #[],.func (.func 27) #[] #[]] 72)).alloc (.cells #[.slice none 0 0,.slice none 0 0,.slice none 0 0,.int .i64 (-1),.int .i64 0] 74)) from Fr.alloc (Fr.alloc (Fr.refl _ _) _) _);have HA0:=hide (show ((w1.alloc (.cells #[.nilFunc,.func (.func 24) #[] #[],.func (.func 25) #[] #[],.func (.func 26) #[] #[],.func (.func 27) #[] #[]] 72)).alloc (.cells #[.slice none 0 0,.slice none 0 0,.slice none 0 0,.int .i64 (-1),.int .i64 0] 74)).heap[w1.heap.size]? =some (.cells #[.nilFunc,.func (.func 24) #[] #[],.func (.func 25) #[] #[],.func (.func 26) #[] #[],.func (.func 27) #[] #[]] 72) from by rw[Below.heap_alloc _ _ _ (by simp)];exact heap_alloc_new w1 _);generalize ((w1.alloc (.cells #[.nilFunc,.func (.func 24) #[] #[],.func (.func 25) #[] #[],.func (.func 26) #[] #[],.func (.func 27) #[] #[]] 72)).alloc (.cells #[.slice none 0 0,.slice none 0 0,.slice none 0 0,.int .i64 (-1),.int .i64 0] 74))=WB at*;have HJ0:=hide (show ParseJ WB WB (w1.heap.size+1) T 0 initM from⟨HS0.out,Inv.init,fun t ht=>(by cases ht),by rw[List.drop_zero],Fr.refl _ _⟩);have hres:w.heap.size<w1.heap.size:=by have:=HF1.out.size;simp at this;omega
   have HRES:=hide hres;clear HS0 hres;go_loopw [26] (fun i wr=>∃(k:Nat) (st:BldM),k≤X.length∧i=.int .i64 k∧Hid (ParseJ WB wr (w1.heap.size+1) T k st)) (fun i _=>X.length - (Go.RowKit.intOf i).toNat)
   case atStart=>exact⟨0,initM,Nat.zero_le _,rfl,HJ0⟩
   case round=>
    obtain⟨k,st,hk,rfl,hJ⟩:=hrel;have HW1:=hide (show Fr (fun j=>w1.heap.size+1≤j) w1 wr from(HF0.out.mono (fun _ h=>h.elim)).trans hJ.out.fr);have HFW:=hide (show Fr (fun _=>False) w wr from(FA.out.trans HF1.out).then_ HW1.out (fun j h1 h2=>by have:=HRES.out;omega));have HRC:=hide (fun(W:World) (f:Fr (fun _=>False) wr W)=>show W.heap[w.heap.size]? =some (.cells #[.slice none 0 0] 31 (0,0)) from by rw[f.block _ (by have:=HRES.out;have:=HW1.out.size;omega) (fun h=>h),HW1.out.block _ HRES.out (by have:=HRES.out;omega)];exact HC.out w1 HF1.out);have hAr:wr.heap[w1.heap.size]? =some (.cells #[.nilFunc,.func (.func 24) #[] #[],.func (.func 25) #[] #[],.func (.func 26) #[] #[],.func (.func 27) #[] #[]] 72):=by rw[hJ.out.fr.block _ (by exact(Array.getElem?_eq_some_iff.1 HA0.out).1) (by omega)];exact HA0.out
    by_cases hlt:k<X.length
    · have hki:(k:Int)<X.length:=by omega
      have g1:=cell_of_row wr w1.heap.size 1 _ _ _ hAr;have g2:=cell_of_row wr w1.heap.size 2 _ _ _ hAr;have g3:=cell_of_row wr w1.heap.size 3 _ _ _ hAr;have g4:=cell_of_row wr w1.heap.size 4 _ _ _ hAr;simp at g1 g2 g3 g4;have hown:=HTL.out.own.fr HW1.out (fun j hj h=>by have:=(HTL.out.new j hj).2;omega);obtain⟨g,off,cap,hv, -, -,hg,hc⟩:=hown.rd.at_ (i:=k) (by simpa using hlt);simp only[List.length_map,Value.slice.injEq,true_and] at hv;obtain⟨rfl,rfl⟩:=hv;have hmem:X[k]∈X:=List.getElem_mem hlt;have hok:=(HTL.out.ok _ hmem).fr HW1.out (fun j hj h=>by have:=(HTL.out.newa _ hmem j hj).2.1;omega)
      have hTk:T.drop k=X[k].m::T.drop (k+1):=by
       have hl:k<T.length:=by rw[←HM.out];simpa using hlt
       rw[List.drop_eq_getElem_cons hl];congr 1;simp only[←HM.out,List.getElem_map]
      have htake:sumT (T.take (k+1))=sumT (T.take k)+X[k].m.text.length:=by
       have hl:k<T.length:=by rw[←HM.out];simpa using hlt
       rw[List.take_succ_eq_append_getElem hl,z89];simp only[←HM.out,List.getElem_map,sumT];omega
      have hsum:sumT (T.take k)+sumT (T.drop k)=sumT T:=by rw[←z89,List.take_append_drop]
      have hfac:=HFX.out.1 X[k].m (by rw[←HM.out];exact List.mem_map_of_mem hmem);have q0:=hc 0 (by decide);have q1:=hc 1 (by decide);have q2:=hc 2 (by decide);have q3:=hc 3 (by decide);have q4:=hc 4 (by decide);rw[List.getElem_map] at q0 q1 q2 q3 q4;rw[hTk,sumT] at hsum;have hrun:=hJ.out.run;rw[hTk] at hrun;have hsmax:=HFX.out.2.1;generalize X[k]=xx at*;obtain⟨⟨tk,tn,tA,tm,tc,tt,ta⟩,xo,m⟩:=xx;obtain⟨e1,e2,e3,e4,e5,e6⟩:=hok;simp only at e1 e2 e3 e4 e5 e6;dsimp only at hfac hsum hrun htake hTk
      replace e2:tn=bs m.name:=e2
      replace e3:tt=bs m.text:=e3
      replace e5:tm=(z01 m).length:=by rw[e5];simp[z01]
      subst e1 e2 e3 e4 e5;simp only[tokC,Nat.add_zero,List.getElem?_cons_zero,List.getElem?_cons_succ,←Nat.add_assoc] at q0 q1 q2 q3 q4
      have HOPS:=hide (fun(W:World) (f:Fr (fun _=>False) wr W)=>show OpS W (w1.heap.size+1) (w1.heap.size+1) st m tA tc (fun j=>xo=some j) from
       ⟨hJ.out.sb.same f,hJ.out.iv,(e6.fr f (fun _ _ h=>h)).rd,fun j hj=>Nat.lt_of_lt_of_le (e6.lt j hj) f.size,by have:=hfac.2;simp[z01];omega,by obtain⟨_,_,_,_,_,_,_,hB, -⟩:=hJ.out.sb;exact Nat.le_of_lt (Nat.lt_of_lt_of_le hB.lt f.size)⟩)
      have HCL:=hide (fun(W:World) (f:Fr (fun _=>False) wr W)=>zq1 (HOPS.out W f) hJ.out.sz (by omega));have HVB:=hide (fun(n:Int) (W:World) (f:Fr (fun _=>False) (wr.alloc (.cells #[.int .u8 n,.string (bs m.name),.slice tA (z01 m).length tc,.string (bs m.text),.int .i64 (m.at_:Int)] 76)) W)=>show W.heap[wr.heap.size]? =some (.cells #[.int .u8 n,.string (bs m.name),.slice tA (z01 m).length tc,.string (bs m.text),.int .i64 (m.at_:Int)] 76 (0,0)) from by rw[f.block _ (by simp) (fun h=>h)];exact heap_alloc_new wr _);have hkind:(m.kind=1∨m.kind=2∨m.kind=3∨m.kind=4):=by have:=hfac.1;omega
      have HJF:=hide hJ.out.fr
      cases hs:z1l st m with
      |inr er=>
       have hne:(er==0)=false:=by rw[beq_eq_false_iff_ne];exact ziw hs
       have hres2:z2v s.data.toList=([],(m.at_:Int),er):=by rw[HTR.out,hrun,z69 hs];rfl
       have HERR:=hide (fun(W:World) (f:Fr (fun _=>False) w W)=>ParsePost.err (s:=s) hres2 f);clear hres2 hrun hsum htake hTk hc hg hmem hfac hAr e6 hown hsmax;rcases hkind with hkn|hkn|hkn|hkn
       · have HC:=hide (fun(W:World) (f:Fr (fun _=>False) wr W)=>show Calls Tryz.prog 24 #[.pointer (some ⟨w1.heap.size+1,0,none⟩),.agg #[.int .u8 1,.string (bs m.name),.slice tA (z01 m).length tc,.string (bs m.text),.int .i64 (m.at_:Int)]] W (z10 W (w1.heap.size+1) (w1.heap.size+1) (z1l st m)) from by have:=(HCL.out W f).1 hkn;unfold tokA at this;rw[hkn] at this;exact this);have ga:=(Fr.cell (Fr.alloc (Fr.refl (fun _=>False) wr) (.cells #[.int .u8 1,.string (bs m.name),.slice tA (z01 m).length tc,.string (bs m.text),.int .i64 (m.at_:Int)] 76)) (p:=⟨w1.heap.size,1,none⟩) (World.block_lt_of_cell? wr ⟨w1.heap.size,1,none⟩ g1) (fun h=>h)).trans g1
         replace q0:wr.cell? ⟨g,off+k*5,none⟩=some (.int .u8 1):=by rw[q0,hkn];rfl
         clear g1 g2 g3 g4 hkn;rw[hs] at HC;go_wp2_with fail
         go_region_with (go_at_call 24;refine(HC.out _ (by first|exact Fr.drew (Fr.alloc (Fr.refl _ _) _)|exact Fr.alloc (Fr.refl _ _) _|exact Fr.alloc (Fr.drew (Fr.refl _ _)) _)).mono ?_;rintro e w2 ⟨rfl,hf2⟩;have F2:Fr (fun _=>False) (wr.alloc (.cells #[.int .u8 1,.string (bs m.name),.slice tA (z01 m).length tc,.string (bs m.text),.int .i64 (m.at_:Int)] 76)) w2:=⟨hf2.os,hf2.tape,hf2.output,hf2.size,hf2.block⟩;have hv2:=HVB.out _ w2 F2;have hr2:=HRC.out w2 ((Fr.alloc (Fr.refl _ _) _).trans F2);have v4:=cell_of_row w2 wr.heap.size 4 _ _ _ hv2;have r0:=cell_of_row w2 w.heap.size 0 _ _ _ hr2;have rf:=frozen_of_row w2 w.heap.size 0 _ _ hr2;simp at v4 r0)
         all_goals
          go_wp2_with fail
          go_region;go_wp2_with fail;have hc2:=heap_setCell_same w2 w.heap.size 0 _ _ (.slice none 0 0) hr2;have k2:=cell_of_row (w2.setCell ⟨w.heap.size,0,none⟩ (.slice none 0 0)) w.heap.size 0 _ _ _ hc2;simp at k2;refine bodyPost_ret (v:=.tuple #[.agg #[.slice none 0 0],.int .i64 (m.at_:Int),.int .i64 er]) (by simp[results,Tryz.results7,go_sem,k2]) rfl ?_;refine HERR.out _ ?_;have:=Fr.setCell (fp:=fun _=>False) (p:=⟨w.heap.size,0,none⟩) (HFW.out.trans ((Fr.alloc (Fr.refl _ _) _).trans F2)) (.inr (Nat.le_refl _)) (.slice none 0 0);first|exact this|exact this.drew|exact this.drew.drew
       · have HC:=hide (fun(W:World) (f:Fr (fun _=>False) wr W)=>show Calls Tryz.prog 25 #[.pointer (some ⟨w1.heap.size+1,0,none⟩),.agg #[.int .u8 2,.string (bs m.name),.slice tA (z01 m).length tc,.string (bs m.text),.int .i64 (m.at_:Int)]] W (z10 W (w1.heap.size+1) (w1.heap.size+1) (z1l st m)) from by have:=(HCL.out W f).2.1 hkn;unfold tokA at this;rw[hkn] at this;exact this);have ga:=(Fr.cell (Fr.alloc (Fr.refl (fun _=>False) wr) (.cells #[.int .u8 2,.string (bs m.name),.slice tA (z01 m).length tc,.string (bs m.text),.int .i64 (m.at_:Int)] 76)) (p:=⟨w1.heap.size,2,none⟩) (World.block_lt_of_cell? wr ⟨w1.heap.size,2,none⟩ g2) (fun h=>h)).trans g2
         replace q0:wr.cell? ⟨g,off+k*5,none⟩=some (.int .u8 2):=by rw[q0,hkn];rfl
         clear g1 g2 g3 g4 hkn;rw[hs] at HC;go_wp2_with fail
         go_region_with (go_at_call 25;refine(HC.out _ (by first|exact Fr.drew (Fr.alloc (Fr.refl _ _) _)|exact Fr.alloc (Fr.refl _ _) _|exact Fr.alloc (Fr.drew (Fr.refl _ _)) _)).mono ?_;rintro e w2 ⟨rfl,hf2⟩;have F2:Fr (fun _=>False) (wr.alloc (.cells #[.int .u8 2,.string (bs m.name),.slice tA (z01 m).length tc,.string (bs m.text),.int .i64 (m.at_:Int)] 76)) w2:=⟨hf2.os,hf2.tape,hf2.output,hf2.size,hf2.block⟩;have hv2:=HVB.out _ w2 F2;have hr2:=HRC.out w2 ((Fr.alloc (Fr.refl _ _) _).trans F2);have v4:=cell_of_row w2 wr.heap.size 4 _ _ _ hv2;have r0:=cell_of_row w2 w.heap.size 0 _ _ _ hr2;have rf:=frozen_of_row w2 w.heap.size 0 _ _ hr2;simp at v4 r0)
         all_goals
          go_wp2_with fail
          go_region;go_wp2_with fail;have hc2:=heap_setCell_same w2 w.heap.size 0 _ _ (.slice none 0 0) hr2;have k2:=cell_of_row (w2.setCell ⟨w.heap.size,0,none⟩ (.slice none 0 0)) w.heap.size 0 _ _ _ hc2;simp at k2;refine bodyPost_ret (v:=.tuple #[.agg #[.slice none 0 0],.int .i64 (m.at_:Int),.int .i64 er]) (by simp[results,Tryz.results7,go_sem,k2]) rfl ?_;refine HERR.out _ ?_;have:=Fr.setCell (fp:=fun _=>False) (p:=⟨w.heap.size,0,none⟩) (HFW.out.trans ((Fr.alloc (Fr.refl _ _) _).trans F2)) (.inr (Nat.le_refl _)) (.slice none 0 0);first|exact this|exact this.drew|exact this.drew.drew
       · have HC:=hide (fun(W:World) (f:Fr (fun _=>False) wr W)=>show Calls Tryz.prog 26 #[.pointer (some ⟨w1.heap.size+1,0,none⟩),.agg #[.int .u8 3,.string (bs m.name),.slice tA (z01 m).length tc,.string (bs m.text),.int .i64 (m.at_:Int)]] W (z10 W (w1.heap.size+1) (w1.heap.size+1) (z1l st m)) from by have:=(HCL.out W f).2.2.1 hkn;unfold tokA at this;rw[hkn] at this;exact this);have ga:=(Fr.cell (Fr.alloc (Fr.refl (fun _=>False) wr) (.cells #[.int .u8 3,.string (bs m.name),.slice tA (z01 m).length tc,.string (bs m.text),.int .i64 (m.at_:Int)] 76)) (p:=⟨w1.heap.size,3,none⟩) (World.block_lt_of_cell? wr ⟨w1.heap.size,3,none⟩ g3) (fun h=>h)).trans g3
         replace q0:wr.cell? ⟨g,off+k*5,none⟩=some (.int .u8 3):=by rw[q0,hkn];rfl
         clear g1 g2 g3 g4 hkn;rw[hs] at HC;go_wp2_with fail
         go_region_with (go_at_call 26;refine(HC.out _ (by first|exact Fr.drew (Fr.alloc (Fr.refl _ _) _)|exact Fr.alloc (Fr.refl _ _) _|exact Fr.alloc (Fr.drew (Fr.refl _ _)) _)).mono ?_;rintro e w2 ⟨rfl,hf2⟩;have F2:Fr (fun _=>False) (wr.alloc (.cells #[.int .u8 3,.string (bs m.name),.slice tA (z01 m).length tc,.string (bs m.text),.int .i64 (m.at_:Int)] 76)) w2:=⟨hf2.os,hf2.tape,hf2.output,hf2.size,hf2.block⟩;have hv2:=HVB.out _ w2 F2;have hr2:=HRC.out w2 ((Fr.alloc (Fr.refl _ _) _).trans F2);have v4:=cell_of_row w2 wr.heap.size 4 _ _ _ hv2;have r0:=cell_of_row w2 w.heap.size 0 _ _ _ hr2;have rf:=frozen_of_row w2 w.heap.size 0 _ _ hr2;simp at v4 r0)
         all_goals
          go_wp2_with fail
          go_region;go_wp2_with fail;have hc2:=heap_setCell_same w2 w.heap.size 0 _ _ (.slice none 0 0) hr2;have k2:=cell_of_row (w2.setCell ⟨w.heap.size,0,none⟩ (.slice none 0 0)) w.heap.size 0 _ _ _ hc2;simp at k2;refine bodyPost_ret (v:=.tuple #[.agg #[.slice none 0 0],.int .i64 (m.at_:Int),.int .i64 er]) (by simp[results,Tryz.results7,go_sem,k2]) rfl ?_;refine HERR.out _ ?_;have:=Fr.setCell (fp:=fun _=>False) (p:=⟨w.heap.size,0,none⟩) (HFW.out.trans ((Fr.alloc (Fr.refl _ _) _).trans F2)) (.inr (Nat.le_refl _)) (.slice none 0 0);first|exact this|exact this.drew|exact this.drew.drew
       · have HC:=hide (fun(W:World) (f:Fr (fun _=>False) wr W)=>show Calls Tryz.prog 27 #[.pointer (some ⟨w1.heap.size+1,0,none⟩),.agg #[.int .u8 4,.string (bs m.name),.slice tA (z01 m).length tc,.string (bs m.text),.int .i64 (m.at_:Int)]] W (z10 W (w1.heap.size+1) (w1.heap.size+1) (z1l st m)) from by have:=(HCL.out W f).2.2.2 hkn;unfold tokA at this;rw[hkn] at this;exact this);have ga:=(Fr.cell (Fr.alloc (Fr.refl (fun _=>False) wr) (.cells #[.int .u8 4,.string (bs m.name),.slice tA (z01 m).length tc,.string (bs m.text),.int .i64 (m.at_:Int)] 76)) (p:=⟨w1.heap.size,4,none⟩) (World.block_lt_of_cell? wr ⟨w1.heap.size,4,none⟩ g4) (fun h=>h)).trans g4
         replace q0:wr.cell? ⟨g,off+k*5,none⟩=some (.int .u8 4):=by rw[q0,hkn];rfl
         clear g1 g2 g3 g4 hkn;rw[hs] at HC;go_wp2_with fail
         go_region_with (go_at_call 27;refine(HC.out _ (by first|exact Fr.drew (Fr.alloc (Fr.refl _ _) _)|exact Fr.alloc (Fr.refl _ _) _|exact Fr.alloc (Fr.drew (Fr.refl _ _)) _)).mono ?_;rintro e w2 ⟨rfl,hf2⟩;have F2:Fr (fun _=>False) (wr.alloc (.cells #[.int .u8 4,.string (bs m.name),.slice tA (z01 m).length tc,.string (bs m.text),.int .i64 (m.at_:Int)] 76)) w2:=⟨hf2.os,hf2.tape,hf2.output,hf2.size,hf2.block⟩;have hv2:=HVB.out _ w2 F2;have hr2:=HRC.out w2 ((Fr.alloc (Fr.refl _ _) _).trans F2);have v4:=cell_of_row w2 wr.heap.size 4 _ _ _ hv2;have r0:=cell_of_row w2 w.heap.size 0 _ _ _ hr2;have rf:=frozen_of_row w2 w.heap.size 0 _ _ hr2;simp at v4 r0)
         all_goals
          go_wp2_with fail
          go_region;go_wp2_with fail;have hc2:=heap_setCell_same w2 w.heap.size 0 _ _ (.slice none 0 0) hr2;have k2:=cell_of_row (w2.setCell ⟨w.heap.size,0,none⟩ (.slice none 0 0)) w.heap.size 0 _ _ _ hc2;simp at k2;refine bodyPost_ret (v:=.tuple #[.agg #[.slice none 0 0],.int .i64 (m.at_:Int),.int .i64 er]) (by simp[results,Tryz.results7,go_sem,k2]) rfl ?_;refine HERR.out _ ?_;have:=Fr.setCell (fp:=fun _=>False) (p:=⟨w.heap.size,0,none⟩) (HFW.out.trans ((Fr.alloc (Fr.refl _ _) _).trans F2)) (.inr (Nat.le_refl _)) (.slice none 0 0);first|exact this|exact this.drew|exact this.drew.drew
      |inl st'=>
       have HIV:=hide (hJ.out.iv.step hs);have HSZ:=hide (show ∀t∈st'.texts,t.size≤sumT (T.take (k+1)) from by rw[htake];exact zm7 hs hJ.out.sz);have HRUN:=hide (show runM initM T=runM st' (T.drop (k+1)) from by rw[hrun,z36 hs]);clear hrun hsum htake hTk hc hg hmem hfac hAr e6 hown hsmax;rcases hkind with hkn|hkn|hkn|hkn
       · have HC:=hide (fun(W:World) (f:Fr (fun _=>False) wr W)=>show Calls Tryz.prog 24 #[.pointer (some ⟨w1.heap.size+1,0,none⟩),.agg #[.int .u8 1,.string (bs m.name),.slice tA (z01 m).length tc,.string (bs m.text),.int .i64 (m.at_:Int)]] W (z10 W (w1.heap.size+1) (w1.heap.size+1) (z1l st m)) from by have:=(HCL.out W f).1 hkn;unfold tokA at this;rw[hkn] at this;exact this);have ga:=(Fr.cell (Fr.alloc (Fr.refl (fun _=>False) wr) (.cells #[.int .u8 1,.string (bs m.name),.slice tA (z01 m).length tc,.string (bs m.text),.int .i64 (m.at_:Int)] 76)) (p:=⟨w1.heap.size,1,none⟩) (World.block_lt_of_cell? wr ⟨w1.heap.size,1,none⟩ g1) (fun h=>h)).trans g1
         replace q0:wr.cell? ⟨g,off+k*5,none⟩=some (.int .u8 1):=by rw[q0,hkn];rfl
         clear g1 g2 g3 g4 hkn;rw[hs] at HC;go_wp2_with fail
         go_region_with (go_at_call 24;refine(HC.out _ (by first|exact Fr.drew (Fr.alloc (Fr.refl _ _) _)|exact Fr.alloc (Fr.refl _ _) _|exact Fr.alloc (Fr.drew (Fr.refl _ _)) _)).mono ?_;rintro e w2 ⟨rfl,hS2,hf2⟩;have F2:Fr (fun k=>w1.heap.size+1≤k) wr w2:=((Fr.alloc (Fr.refl (fun k=>w1.heap.size+1≤k) wr) (.cells #[.int .u8 1,.string (bs m.name),.slice tA (z01 m).length tc,.string (bs m.text),.int .i64 (m.at_:Int)] 76)).trans ⟨hf2.os,hf2.tape,hf2.output,hf2.size,hf2.block⟩))
         go_wp2_with fail
         all_goals exact⟨⟨k+1,st',by omega,by go_num,hide ⟨hS2,HIV.out,HSZ.out,HRUN.out,HJF.out.trans F2⟩⟩,by simp[Go.RowKit.intOf];omega⟩
       · have HC:=hide (fun(W:World) (f:Fr (fun _=>False) wr W)=>show Calls Tryz.prog 25 #[.pointer (some ⟨w1.heap.size+1,0,none⟩),.agg #[.int .u8 2,.string (bs m.name),.slice tA (z01 m).length tc,.string (bs m.text),.int .i64 (m.at_:Int)]] W (z10 W (w1.heap.size+1) (w1.heap.size+1) (z1l st m)) from by have:=(HCL.out W f).2.1 hkn;unfold tokA at this;rw[hkn] at this;exact this);have ga:=(Fr.cell (Fr.alloc (Fr.refl (fun _=>False) wr) (.cells #[.int .u8 2,.string (bs m.name),.slice tA (z01 m).length tc,.string (bs m.text),.int .i64 (m.at_:Int)] 76)) (p:=⟨w1.heap.size,2,none⟩) (World.block_lt_of_cell? wr ⟨w1.heap.size,2,none⟩ g2) (fun h=>h)).trans g2
         replace q0:wr.cell? ⟨g,off+k*5,none⟩=some (.int .u8 2):=by rw[q0,hkn];rfl
         clear g1 g2 g3 g4 hkn;rw[hs] at HC;go_wp2_with fail
         go_region_with (go_at_call 25;refine(HC.out _ (by first|exact Fr.drew (Fr.alloc (Fr.refl _ _) _)|exact Fr.alloc (Fr.refl _ _) _|exact Fr.alloc (Fr.drew (Fr.refl _ _)) _)).mono ?_;rintro e w2 ⟨rfl,hS2,hf2⟩;have F2:Fr (fun k=>w1.heap.size+1≤k) wr w2:=((Fr.alloc (Fr.refl (fun k=>w1.heap.size+1≤k) wr) (.cells #[.int .u8 2,.string (bs m.name),.slice tA (z01 m).length tc,.string (bs m.text),.int .i64 (m.at_:Int)] 76)).trans ⟨hf2.os,hf2.tape,hf2.output,hf2.size,hf2.block⟩))
         go_wp2_with fail
         all_goals exact⟨⟨k+1,st',by omega,by go_num,hide ⟨hS2,HIV.out,HSZ.out,HRUN.out,HJF.out.trans F2⟩⟩,by simp[Go.RowKit.intOf];omega⟩
       · have HC:=hide (fun(W:World) (f:Fr (fun _=>False) wr W)=>show Calls Tryz.prog 26 #[.pointer (some ⟨w1.heap.size+1,0,none⟩),.agg #[.int .u8 3,.string (bs m.name),.slice tA (z01 m).length tc,.string (bs m.text),.int .i64 (m.at_:Int)]] W (z10 W (w1.heap.size+1) (w1.heap.size+1) (z1l st m)) from by have:=(HCL.out W f).2.2.1 hkn;unfold tokA at this;rw[hkn] at this;exact this);have ga:=(Fr.cell (Fr.alloc (Fr.refl (fun _=>False) wr) (.cells #[.int .u8 3,.string (bs m.name),.slice tA (z01 m).length tc,.string (bs m.text),.int .i64 (m.at_:Int)] 76)) (p:=⟨w1.heap.size,3,none⟩) (World.block_lt_of_cell? wr ⟨w1.heap.size,3,none⟩ g3) (fun h=>h)).trans g3
         replace q0:wr.cell? ⟨g,off+k*5,none⟩=some (.int .u8 3):=by rw[q0,hkn];rfl
         clear g1 g2 g3 g4 hkn;rw[hs] at HC;go_wp2_with fail
         go_region_with (go_at_call 26;refine(HC.out _ (by first|exact Fr.drew (Fr.alloc (Fr.refl _ _) _)|exact Fr.alloc (Fr.refl _ _) _|exact Fr.alloc (Fr.drew (Fr.refl _ _)) _)).mono ?_;rintro e w2 ⟨rfl,hS2,hf2⟩;have F2:Fr (fun k=>w1.heap.size+1≤k) wr w2:=((Fr.alloc (Fr.refl (fun k=>w1.heap.size+1≤k) wr) (.cells #[.int .u8 3,.string (bs m.name),.slice tA (z01 m).length tc,.string (bs m.text),.int .i64 (m.at_:Int)] 76)).trans ⟨hf2.os,hf2.tape,hf2.output,hf2.size,hf2.block⟩))
         go_wp2_with fail
         all_goals exact⟨⟨k+1,st',by omega,by go_num,hide ⟨hS2,HIV.out,HSZ.out,HRUN.out,HJF.out.trans F2⟩⟩,by simp[Go.RowKit.intOf];omega⟩
       · have HC:=hide (fun(W:World) (f:Fr (fun _=>False) wr W)=>show Calls Tryz.prog 27 #[.pointer (some ⟨w1.heap.size+1,0,none⟩),.agg #[.int .u8 4,.string (bs m.name),.slice tA (z01 m).length tc,.string (bs m.text),.int .i64 (m.at_:Int)]] W (z10 W (w1.heap.size+1) (w1.heap.size+1) (z1l st m)) from by have:=(HCL.out W f).2.2.2 hkn;unfold tokA at this;rw[hkn] at this;exact this);have ga:=(Fr.cell (Fr.alloc (Fr.refl (fun _=>False) wr) (.cells #[.int .u8 4,.string (bs m.name),.slice tA (z01 m).length tc,.string (bs m.text),.int .i64 (m.at_:Int)] 76)) (p:=⟨w1.heap.size,4,none⟩) (World.block_lt_of_cell? wr ⟨w1.heap.size,4,none⟩ g4) (fun h=>h)).trans g4
         replace q0:wr.cell? ⟨g,off+k*5,none⟩=some (.int .u8 4):=by rw[q0,hkn];rfl
         clear g1 g2 g3 g4 hkn;rw[hs] at HC;go_wp2_with fail
         go_region_with (go_at_call 27;refine(HC.out _ (by first|exact Fr.drew (Fr.alloc (Fr.refl _ _) _)|exact Fr.alloc (Fr.refl _ _) _|exact Fr.alloc (Fr.drew (Fr.refl _ _)) _)).mono ?_;rintro e w2 ⟨rfl,hS2,hf2⟩;have F2:Fr (fun k=>w1.heap.size+1≤k) wr w2:=((Fr.alloc (Fr.refl (fun k=>w1.heap.size+1≤k) wr) (.cells #[.int .u8 4,.string (bs m.name),.slice tA (z01 m).length tc,.string (bs m.text),.int .i64 (m.at_:Int)] 76)).trans ⟨hf2.os,hf2.tape,hf2.output,hf2.size,hf2.block⟩))
         go_wp2_with fail
         all_goals exact⟨⟨k+1,st',by omega,by go_num,hide ⟨hS2,HIV.out,HSZ.out,HRUN.out,HJF.out.trans F2⟩⟩,by simp[Go.RowKit.intOf];omega⟩
    · obtain rfl:k=X.length:=by omega
      obtain⟨nv,tv,lv,on,ot,ol,Y,B,hY⟩:=hJ.out.sb;obtain⟨An,cn,hnv, -, -⟩:=B.nodes.form;rw[List.length_map] at hnv;subst hnv;obtain⟨b0,b1,b2,b3,b4,bf⟩:=B.facts;have hfin:z2v s.data.toList=finM s.size (.inl st):=by rw[HTR.out,hJ.out.run,List.drop_of_length_le (by rw[←HM.out,List.length_map];exact Nat.le_refl _)];rfl
      have hYn:Y.length=st.nodes.length:=by rw[←hY,List.length_map]
      have hnil:st.nodes=[]↔Y.length=0:=by rw[←List.length_eq_zero_iff,hYn]
      have hr:=HRC.out wr (Fr.refl _ _);have r0:=cell_of_row wr w.heap.size 0 _ _ _ hr;have rf:=frozen_of_row wr w.heap.size 0 _ _ hr;simp at r0;have HB:=hide B;have HY:=hide hY;have hn:=hJ.out.iv.n;have hY63:Y.length≤4096:=by omega
      by_cases hbad:st.inn≠ -1∨st.nodes=[]
      · have hres2:z2v s.data.toList=([],((s.size:Nat):Int),50):=by rw[hfin];unfold finM;simp only;rw[if_pos hbad]
        have HERR:=hide (fun(W:World) (f:Fr (fun _=>False) w W)=>ParsePost.err (s:=s) hres2 f)
        have hside:(∃p:Nat,st.inn=p)∨(st.inn= -1∧Y.length=0):=by
         by_cases hi:st.inn= -1
         · exact .inr ⟨hi,hnil.1 (hbad.resolve_left (fun h=>h hi))⟩
         · obtain⟨p,hp, -⟩:=hJ.out.iv.open_ hi;exact .inl ⟨p,hp⟩
        have hc2:=heap_setCell_same wr w.heap.size 0 _ _ (.slice none 0 0) hr;have k2:=cell_of_row (wr.setCell ⟨w.heap.size,0,none⟩ (.slice none 0 0)) w.heap.size 0 _ _ _ hc2;simp at k2;have HK2:=hide k2;have HFE:=hide (show Fr (fun _=>False) w (wr.setCell ⟨w.heap.size,0,none⟩ (.slice none 0 0)) from Fr.setCell (p:=⟨w.heap.size,0,none⟩) HFW.out (.inr (Nat.le_refl _)) _);clear hres2 hbad hfin hYn hnil hc2 k2 hn hY B hr hAr;rcases hside with ⟨p,hp⟩|⟨hi,hz⟩
        · rw[hp] at b3;have hi3:((p:Int)== -1)=false:=by rw[beq_eq_false_iff_ne];omega
          go_wp2_with fail
          refine bodyPost_ret (v:=.tuple #[.agg #[.slice none 0 0],.int .i64 (s.size:Int),.int .i64 50]) (by simp[results,Tryz.results7,go_sem,HK2.out]) rfl ?_;exact HERR.out _ HFE.out
        · rw[hi] at b3;have hz2:((Y.length:Int)==0)=true:=by rw[beq_iff_eq];omega
          clear hz;go_wp2_with fail;refine bodyPost_ret (v:=.tuple #[.agg #[.slice none 0 0],.int .i64 (s.size:Int),.int .i64 50]) (by simp[results,Tryz.results7,go_sem,HK2.out]) rfl ?_;exact HERR.out _ HFE.out
      · have hi:st.inn= -1:=Decidable.not_not.1 fun h=>hbad (.inl h);have hz:Y.length≠0:=fun h=>hbad (.inr (hnil.2 h));have hz2:((Y.length:Int)==0)=false:=by rw[beq_eq_false_iff_ne];omega
        have hres2:z2v s.data.toList=(st.nodes,0,0):=by rw[hfin];unfold finM;simp only;rw[if_neg hbad]
        have hc2:=heap_setCell_same wr w.heap.size 0 _ _ (.slice An Y.length cn) hr;have k2:=cell_of_row (wr.setCell ⟨w.heap.size,0,none⟩ (.slice An Y.length cn)) w.heap.size 0 _ _ _ hc2;simp at k2;have HK2:=hide k2;have HFE:=hide (show Fr (fun _=>False) w (wr.setCell ⟨w.heap.size,0,none⟩ (.slice An Y.length cn)) from Fr.setCell (p:=⟨w.heap.size,0,none⟩) HFW.out (.inr (Nat.le_refl _)) _);have HR2:=hide hres2;rw[hi] at b3;clear hres2 hbad hfin hYn hnil hc2 k2 hn hY B hr hAr hz;go_wp2_with fail;refine bodyPost_ret (v:=.tuple #[.agg #[.slice An Y.length cn],.int .i64 0,.int .i64 0]) (by simp[results,Tryz.results7,go_sem,HK2.out]) rfl ?_;have fset:=Fr.set_b wr w.heap.size 0 (.slice An Y.length cn);have hwb:w.heap.size<w1.heap.size+1:=by have:=HRES.out;omega
        refine⟨An,cn,on,Y,by rw[HR2.out],⟨?_, ?_, ?_, ?_⟩,by rw[HR2.out];exact HY.out,HFE.out⟩
        · exact HB.out.nodes.fr fset (fun j hj e=>by have:=(HB.out.bn j hj).1;omega)
        · exact fun x hx=>(HB.out.ok x hx).fr fset (fun j hj e=>by have:=(HB.out.ba x hx j hj).1;omega)
        · exact fun j hj=>⟨by have:=(HB.out.bn j hj).1;omega,Nat.lt_of_lt_of_le (HB.out.nodes.lt j hj) fset.size⟩
        · exact fun x hx j hj=>⟨by have:=(HB.out.ba x hx j hj).1;omega,Nat.lt_of_lt_of_le ((HB.out.ok x hx).2.lt j hj) fset.size,(HB.out.ba x hx j hj).2.2.1⟩
 · have hT:z2v s.data.toList=([],((tokR s.data.toList).2.1:Int),(tokR s.data.toList).2.2):=by unfold z2v;rw[if_pos he]
   have HPE:=hide (fun(W:World) (f:Fr (fun _=>False) w W)=>ParsePost.err (s:=s) hT f);have FA:=hide fa;have he2:((tokR s.data.toList).2.2==0)=false:=by rw[beq_eq_false_iff_ne];exact he
   unfold TokensPost at HTK;generalize (tokR s.data.toList).2.2=er at*;generalize ((tokR s.data.toList).2.1)=pl at*;clear hT fa hP hst;have hb0:=heap_alloc_new w (.cells #[.slice none 0 0] 31);have HC:=hide (fun(W:World) (f:Fr (fun _=>False) (w.alloc (.cells #[.slice none 0 0] 31)) W)=>show W.heap[w.heap.size]? =some (.cells #[.slice none 0 0] 31 (0,0)) from by rw[f.block _ (by simp) (fun h=>h)];exact hb0);clear hb0;go_enter Tryz.func7,Tryz.ntmps7;go_wp2_with (go_at_call 23;refine HTK.out.mono ?_;rintro e w1 ⟨A,c,o,X,rfl,tl,hm,f1⟩;have hc:=HC.out w1 f1;have k0:=cell_of_row w1 w.heap.size 0 _ _ _ hc;have kf:=frozen_of_row w1 w.heap.size 0 _ _ hc;simp at k0);have hc2:=heap_setCell_same w1 w.heap.size 0 _ _ (.slice none 0 0) hc;have k2:=cell_of_row (w1.setCell ⟨w.heap.size,0,none⟩ (.slice none 0 0)) w.heap.size 0 _ _ _ hc2;simp at k2;refine bodyPost_ret (v:=.tuple #[.agg #[.slice none 0 0],.int .i64 pl,.int .i64 er]) (by simp[results,Tryz.results7,go_sem,k2]) rfl ?_;refine HPE.out _ ?_;have:=Fr.setCell (fp:=fun _=>False) (p:=⟨w.heap.size,0,none⟩) (FA.out.trans f1) (.inr (Nat.le_refl _)) (.slice none 0 0);first|exact this|exact this.drew
end Go.Proofs.YtnlacmnoocigiaaGreatDoor
