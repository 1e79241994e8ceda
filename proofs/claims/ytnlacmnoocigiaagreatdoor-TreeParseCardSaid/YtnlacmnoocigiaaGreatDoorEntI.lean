/- entity: Encode, the walk. -/
import Derived.Test.YtnlacmnoocigiaaGreatDoorEntH
import Derived.Outline
import Derived.Maps.RangeWalk
import Derived.Deep.RegionLaw
namespace Go.Proofs.YtnlacmnoocigiaaGreatDoor
open Go.RowKit Go.Lib
open Go.ChangeMaps (setBlock)
attribute [local go_sem ↓] Go.wp_at_zero Go.wp_at_succ
def zsy (S:List Nat):Nat:=(if 0∈S then 0 else 1)+(if 1∈S then 0 else 1)+(if 2∈S then 0 else 1)+(if 3∈S then 0 else 1)+(if 4∈S then 0 else 1)
theorem z4f (S:Array Nat)(i:Nat)(hi:i<5)(h:i ∉ S.toList):zsy (S.push i).toList<zsy S.toList:=by
 unfold zsy;simp only[zeg];have hc:i=0∨i=1∨i=2∨i=3∨i=4:=by omega
 rcases hc with rfl|rfl|rfl|rfl|rfl<;>simp[h]
theorem zsz {S:Array Nat}{e:MapEntry}(h:e∈(leftOf nameEs S).toList):∃i,i<5∧i ∉ S.toList∧e∈nameEs.toList∧e.born=i:=by
 unfold leftOf at h;simp only[Array.toList_filter,List.mem_filter] at h;obtain⟨h1,h2⟩:=h;have h3:e.born<5:=by simp only[nameEs,List.mem_cons,List.not_mem_nil,or_false] at h1;rcases h1 with rfl|rfl|rfl|rfl|rfl<;>decide
 exact⟨e.born,h3,by simpa using h2,h1,rfl⟩
theorem zop {S:Array Nat}(h:(leftOf nameEs S).size=0):∀i,i<5→i∈S.toList:=by
 intro i hi;have h0:(leftOf nameEs S).toList=[]:=by apply List.eq_nil_of_length_eq_zero;rw[Array.length_toList];exact h
 have hmem:∀e∈nameEs.toList,e.born∈S.toList:=by intro e he;unfold leftOf at h0;rw[Array.toList_filter,List.filter_eq_nil_iff] at h0;have:=h0 e he;simpa using this
 have hc:i=0∨i=1∨i=2∨i=3∨i=4:=by omega
 rcases hc with rfl|rfl|rfl|rfl|rfl
 · exact hmem (z1y [97,109,112] [38] 0) (by simp[nameEs])
 · exact hmem (z1y [108,116] [60] 1) (by simp[nameEs])
 · exact hmem (z1y [103,116] [62] 2) (by simp[nameEs])
 · exact hmem (z1y [113,117,111,116] [34] 3) (by simp[nameEs])
 · exact hmem (z1y [97,112,111,115] [39] 4) (by simp[nameEs])
theorem z83 {w:World}{it nb:Nat}{S:Array Nat}(h:w.heap[it]? =some (.mapIter (some nb) 5 S 5)):w.iterSeen it=S:=by unfold World.iterSeen;rw[h]
theorem EncR.round {w W w3:World}{attr:Bool}{m q nb it:Nat}{T:Array Nat}{g:ByteArray→Option Value}{o:Obj}(hm:w.heap.size≤m∧m<q∧q<nb∧nb<it)(h1:Fr (fun _=>False) w W)(h2:W.heap[it]? =some (.mapIter (some nb) 5 T 5))(h3:W.heap[nb]? =some (.map nameEs 5))
 (h4:W.heap[q]? =some (.cells #[.map (some m)] 160 (0,0))) (h5:∀j∈T.toList,j<5) (h6:Fr (fun j=>j=m) (W.alloc o) w3) (h7:SMap w3 m g) (h8:∀k,g k=z48 attr T.toList k):EncR w w3 attr m q nb it T:=by
 obtain⟨m1,m2,m3,m4⟩:=hm;have hb:∀k ob,W.heap[k]? =some ob→k≠m→w3.heap[k]? =some ob:=fun k ob hk hne=>by rw[h6.block k (by simp;exact Nat.lt_succ_of_lt (lt_of_block hk)) hne];rw[Below.heap_alloc W o k (lt_of_block hk)];exact hk
 exact⟨(h1.alloc o).then_ h6 (fun k hk hkm=>by omega),⟨m1,m2,m3,m4⟩,hb it _ h2 (by omega),hb nb _ h3 (by omega),hb q _ h4 (by omega),h7.congr h8,h5⟩
theorem zfx (w1 w2:World)(v:Value)(h:((w1.alloc (.map #[] 0)).alloc (.cells #[v] 160)).alloc (.map nameEs 5)=w2):w2.heap[w1.heap.size+1+1]? =some (.map nameEs 5):=by subst h;have:=heap_alloc_new ((w1.alloc (.map #[] 0)).alloc (.cells #[v] 160)) (.map nameEs 5);simpa using this
theorem zls {w w1 w2:World}(attr:Bool)(f:Fr (fun _=>False) w w1)(h:((w1.alloc (.map #[] 0)).alloc (.cells #[.map (some w1.heap.size)] 160)).alloc (.map nameEs 5)=w2):
 EncR w (w2.alloc (.mapIter (some (w1.heap.size+1+1)) 5 #[] 5)) attr w1.heap.size (w1.heap.size+1) (w1.heap.size+1+1) w2.heap.size #[]:=by
 have hn:=zfx w1 w2 _ h;have hq:w2.heap[w1.heap.size+1]? =some (.cells #[.map (some w1.heap.size)] 160 (0,0)):=by subst h;have:=heap_alloc_new (w1.alloc (.map #[] 0)) (.cells #[.map (some w1.heap.size)] 160);rw[Below.heap_alloc _ _ _ (by simp)];simpa using this
 have hm:SMap w2 w1.heap.size (fun _=>none):=by have h0:=SMap.made w1;subst h;exact(h0.keep (Below.heap_alloc (w1.alloc (.map #[] 0)) _ _ (by simp))).keep (Below.heap_alloc _ _ _ (by simp;omega))
 have hf:Fr (fun _=>False) w1 w2:=by subst h;exact((Fr.alloc (Fr.refl _ _) _).alloc _).alloc _
 have hz:w2.heap.size=w1.heap.size+3:=by subst h;simp
 refine⟨(f.trans hf).alloc _,⟨f.size,by omega,by omega,by omega⟩,heap_alloc_new w2 _, ?_, ?_, ?_,by simp⟩
 · rw[Below.heap_alloc w2 _ _ (by omega)];exact hn
 · rw[Below.heap_alloc w2 _ _ (by omega)];exact hq
 · exact(hm.keep (Below.heap_alloc w2 _ _ (by omega))).congr (fun k=>by simp[z48])
theorem zoq (s:ByteArray)(p:Nat)(h:p<s.size):s.extract p (p+1)=⟨#[s[p]'h]⟩:=by apply zfp;rw[z1x,List.drop_eq_getElem_cons (by exact h),show p+1 - p=1 by omega];rfl
structure EncT (w wq:World)(attr:Bool)(m q b:Nat)(s:ByteArray)(p:Nat):Prop where
 fr:Fr (fun _=>False) w wq
 lo:w.heap.size≤b∧m<b∧q<b
 box:wq.cell? ⟨q,0,none⟩=some (.map (some m))
 said:SMap wq m (fun k=>(tabF attr k).map z3j)
 bd:Bd wq b (encL attr (s.data.toList.take p))
theorem EncT.put {w wq:World}{attr:Bool}{m q b p:Nat}{s:ByteArray}(h:EncT w wq attr m q b s p)(hp:p<s.size)(hs:s.size≤100000):
 Calls Tryz.prog 93 #[.string ⟨#[s[p]'hp]⟩,.pointer (some ⟨q,0,none⟩),.pointer (some ⟨b,0,none⟩)] wq fun e w'=>e=.returned (.tuple #[])∧EncT w w' attr m q b s (p+1):=by
 have hel:=zwm attr (s.data.toList.take p);have hlt:(s.data.toList.take p).length≤p:=by rw[List.length_take];omega
 refine(zlr attr q m b _ ⟨#[s[p]'hp]⟩ wq h.box h.said h.bd (Nat.le_of_ble_eq_true rfl) (by omega)).mono ?_;rintro e w' ⟨rfl,b1,g1⟩;obtain⟨l1,l2,l3⟩:=h.lo;refine⟨rfl,h.fr.of_below_new l1 g1,h.lo, ?_,h.said.keep (g1.block m l2), ?_⟩
 · rw[World.cell?_of_block (w:=wq) (g1.block q l3)];exact h.box
 · rw[zsw] at b1;rw[List.take_add_one,data_getElem? s p hp,Option.toList_some];have:encL attr (s.data.toList.take p++[s[p]'hp])=encL attr (s.data.toList.take p)++escL attr (s[p]'hp):=by simp[encL]
   rw[this];exact b1
theorem zw2 {S:Array Nat}{w3:World}{m:Nat}(h:∀i,i<5→i∈S.toList)(s3:SMap w3 m (fun q=>if q=⟨#[13]⟩ then some (z3j [35,49,51]) else z48 false S.toList q)):SMap w3 m (fun k=>(tabF false k).map z3j):=s3.congr (fun k=>by rw[zk5 false S h k,zoo k])
theorem zw3 {S:Array Nat}{w5:World}{m:Nat}(h:∀i,i<5→i∈S.toList)(s5:SMap w5 m (fun q=>if q=⟨#[10]⟩ then some (z3j [35,49,48]) else if q=⟨#[9]⟩ then some (z3j [35,57]) else if q=⟨#[13]⟩ then some (z3j [35,49,51]) else z48 true S.toList q)):SMap w5 m (fun k=>(tabF true k).map z3j):=s5.congr (fun k=>by rw[zk5 true S h k];exact zsx k)
theorem zlt {w wr w3 w4 w5:World}{m nb it:Nat}{s:ByteArray}(hm:w.heap.size≤m∧m<m+1∧m+1<nb∧nb<it)(hl5:m+1<w5.heap.size)(f:Fr (fun _=>False) w wr)(f3:Fr (fun j=>j=m) wr w3)(f4:Fr (fun j=>j=m) w3.drew w4)(f5:Fr (fun j=>j=m) w4 w5)
 (s5:SMap w5 m (fun k=>(tabF true k).map z3j)) (hbx5:w5.cell? ⟨m+1,0,none⟩=some (.map (some m))):EncT w (w5.alloc (.cells #[.pointer none,.slice none 0 0] 89)) true m (m+1) w5.heap.size s 0:=by
 obtain⟨m1,m2,m3,m4⟩:=hm;have F3:Fr (fun _=>False) w w3:=f.then_ f3 (fun k hk hkm=>by omega);have F4:Fr (fun _=>False) w w4:=(Fr.drew F3).then_ f4 (fun k hk hkm=>by omega);have F5:Fr (fun _=>False) w w5:=F4.then_ f5 (fun k hk hkm=>by omega);refine⟨F5.alloc _,⟨by omega,by omega,hl5⟩, ?_,s5.keep (Below.heap_alloc w5 _ _ (by omega)),by simpa [encL] using Bd.fresh w5⟩;rw[World.cell?_alloc_past _ _ _ hl5];exact hbx5
theorem zic {w wr w3:World}{m nb it:Nat}{s:ByteArray}(hm:w.heap.size≤m∧m<m+1∧m+1<nb∧nb<it)(hl3:m+1<w3.heap.size)(f:Fr (fun _=>False) w wr)(f3:Fr (fun j=>j=m) wr w3)
 (s3:SMap w3 m (fun k=>(tabF false k).map z3j)) (hbx3:w3.cell? ⟨m+1,0,none⟩=some (.map (some m))):EncT w (w3.alloc (.cells #[.pointer none,.slice none 0 0] 89)) false m (m+1) w3.heap.size s 0:=by
 obtain⟨m1,m2,m3,m4⟩:=hm;have F3:Fr (fun _=>False) w w3:=f.then_ f3 (fun k hk hkm=>by omega);refine⟨F3.alloc _,⟨by omega,by omega,hl3⟩, ?_,s3.keep (Below.heap_alloc w3 _ _ (by omega)),by simpa [encL] using Bd.fresh w3⟩;rw[World.cell?_alloc_past _ _ _ hl3];exact hbx3
set_option maxRecDepth 100000 in
set_option maxHeartbeats 8000000 in
theorem zd5 (s:ByteArray)(attr:Bool)(w:World)(hst:St w)(hs:s.size≤100000):
 Calls Tryz.prog 64 #[.string s,.bool attr] w fun e w'=>e=.returned (wp2 (z61 attr s.data.toList))∧Fr (fun _=>False) w w':=by
 have hl:s.data.toList.length=s.size:=rfl;have HV:=zbh s w hst.ub (by omega);by_cases hv:(z0h s.data.toList).2=0
 · have hr:z61 attr s.data.toList=(encL attr s.data.toList,0):=by unfold z61;rw[if_pos hv]
   rw[hr];rw[hv] at HV;have HV:=hide HV;clear hr hv;generalize (z0h s.data.toList).1=vk at*;have hmm:= @run_makeMap Tryz.prog;have hrg:∀W nb,W.heap[nb]? =some (.map nameEs 5)→(Instr.range 160 (.map (some nb))).run Tryz.prog W=.ok (.pointer (some ⟨W.heap.size,0,none⟩)) (W.alloc (.mapIter (some nb) 5 #[] 5)):=fun W nb h=>run_range_map W _ _ _ nb nameEs 5 Tryz.underlying160 h;have HRG:=hide hrg;clear hrg hst;go_enter Tryz.func64,Tryz.ntmps64
   go_wp2_with (first
    |(go_at_call 45;refine HV.out.mono ?_;rintro e w1 ⟨rfl,f1⟩)
    |(go_at_call 92;refine(zfn _).mono ?_;rintro e w2 ⟨rfl,hw2⟩;have HW2:=hide hw2;have hr2:=HRG.out w2 (w1.heap.size+1+1) (zfx _ _ _ hw2);clear hw2))
   go_loopw [9] (fun _ wr=>∃S:Array Nat,Hid (EncR w wr attr w1.heap.size (w1.heap.size+1) (w1.heap.size+1+1) w2.heap.size S)) (fun _ wr=>zsy (wr.iterSeen w2.heap.size).toList)
   case atStart=>exact⟨#[],hide (zls attr f1 HW2.out)⟩
   case round=>
    obtain⟨S,hE⟩:=hrel;have hpos0:=z83 hE.out.iter;have hbox:wr.cell? ⟨w1.heap.size+1,0,none⟩=some (.map (some w1.heap.size)):=by rw[cell_of_row _ _ 0 _ _ _ hE.out.box];rfl
    rcases run_next_at (P:=Tryz.prog) wr 0 w2.heap.size (w1.heap.size+1+1) 5 5 S nameEs 5 hE.out.iter hE.out.names (by decide) (Nat.le_refl _) with ⟨h0,hx⟩|⟨e,he,v,hv,hx⟩
    · have hnx:∀ty,(Instr.next (.pointer (some ⟨w2.heap.size,0,none⟩)) false ty).run Tryz.prog wr=_:=fun ty=>hx;have HALL:=hide (zop h0);clear hx h0;have HM:=hide hE.out.hm;have hbl:w1.heap.size+1<wr.heap.size:=lt_of_block hE.out.box;have hmf:∀(fn:Fn) (first cap:Array Value) (W:World),(Instr.makeFunc fn first cap).run Tryz.prog W=.ok (.func fn first cap) W:=fun _ _ _ _=>rfl
      cases attr with
      |false=>
       go_wp2_with (first
        |(refine z1i rfl (.inl rfl) Tryz.underlying160 Tryz.underlying9 rfl rfl rfl hE.out.said ?_;intro w3 s3 f3 z3;have Z3:=hide z3;clear z3;go_frame;have hbx3:w3.cell? ⟨w1.heap.size+1,0,none⟩=some (.map (some w1.heap.size)):=by(rw[f3.cell hbl (by show ¬w1.heap.size+1=w1.heap.size;omega)];exact hbox)))
       have s3n:SMap w3 w1.heap.size (fun q=>if q=⟨#[13]⟩ then some (z3j [35,49,51]) else z48 false S.toList q):=s3;clear s3;have ST:Hid (EncT w (w3.alloc (.cells #[.pointer none,.slice none 0 0] 89)) false w1.heap.size (w1.heap.size+1) w3.heap.size s 0):=hide (zic HM.out (by rw[Z3.out];exact hbl) hE.out.fr f3 (zw2 HALL.out s3n) hbx3);clear s3n f3 Z3 hbl;go_wp2_with fail;go_loopw [56] (fun i wq=>∃p:Nat,p≤s.size∧i=.int .i64 p∧Hid (EncT w wq false w1.heap.size (w1.heap.size+1) w3.heap.size s p)) (fun i _=>s.size - (Go.RowKit.intOf i).toNat)
       case atStart=>exact⟨0,by omega,rfl,ST.out⟩
       case round=>
        obtain⟨p,hp,rfl,hT⟩:=hrel;by_cases hps:p<s.size
        · have hpi:(p:Int)<(s.size:Int):=by omega
          have hone:=zoq s p hps;have hx:(s.extract p (p+1)).size≤10:=by rw[hone];exact Nat.le_of_ble_eq_true rfl
          have hput:=hT.out.put hps hs;rw[←hone] at hput;have HP:=hide hput;clear hone hput hx;go_wp2_with (go_at_call 93;refine HP.out.mono ?_;rintro e w6 ⟨rfl,t6⟩);go_roundw
          case rel=>exact⟨p+1,by omega,by go_num,t6⟩
          case measure=>simp[Go.RowKit.intOf];omega
        · obtain rfl:p=s.size:=by omega
          have hbb:=hT.out.bd;rw[List.take_of_length_le (by omega)] at hbb;have HBB:=hide hbb;clear hbb;go_wp2_with (go_at_call 36;refine(z47 _ _ _ HBB.out).mono ?_;rintro e w6 ⟨rfl,b6,g6⟩)
          go_ret2
          exact⟨rfl,hT.out.fr.of_below_new hT.out.lo.1 g6⟩
      |true=>
       go_wp2_with (first
        |(refine z1i rfl (.inl rfl) Tryz.underlying160 Tryz.underlying9 rfl rfl rfl hE.out.said ?_;intro w3 s3 f3 z3;go_frame;have hbx3:w3.cell? ⟨w1.heap.size+1,0,none⟩=some (.map (some w1.heap.size)):=by(rw[f3.cell hbl (by show ¬w1.heap.size+1=w1.heap.size;omega)];exact hbox)))
       have hbl3:w1.heap.size+1<w3.heap.size:=by omega
       have s3n:SMap w3 w1.heap.size (fun q=>if q=⟨#[13]⟩ then some (z3j [35,49,51]) else z48 true S.toList q):=s3;clear s3;obtain⟨w4,hrun4,s4,f4,z4⟩:=z6r (P:=Tryz.prog) Tryz.underlying160 Tryz.underlying9 (w:=w3.drew) s3n ⟨#[9]⟩ (.agg #[.string ⟨#[35,57]⟩]);have hbx4:w4.cell? ⟨w1.heap.size+1,0,none⟩=some (.map (some w1.heap.size)):=(f4.cell (Nat.lt_of_lt_of_eq hbl3 rfl) (by show ¬w1.heap.size+1=w1.heap.size;omega)).trans hbx3;have hbl4:w1.heap.size+1<w4.heap.size:=by rw[z4];exact hbl3
       obtain⟨w5,hrun5,s5,f5,z5⟩:=z6r (P:=Tryz.prog) Tryz.underlying160 Tryz.underlying9 (w:=w4) s4 ⟨#[10]⟩ (.agg #[.string ⟨#[35,49,48]⟩]);have hbx5:w5.cell? ⟨w1.heap.size+1,0,none⟩=some (.map (some w1.heap.size)):=(f5.cell hbl4 (by show ¬w1.heap.size+1=w1.heap.size;omega)).trans hbx4;have ST:Hid (EncT w (w5.alloc (.cells #[.pointer none,.slice none 0 0] 89)) true w1.heap.size (w1.heap.size+1) w5.heap.size s 0):=hide (zlt HM.out (by rw[z5];exact hbl4) hE.out.fr f3 f4 f5 (zw3 HALL.out s5) hbx5);clear s3n s4 s5 f3 f4 f5 z3 z4 z5 hbl3 hbl4;go_region
       all_goals
        clear hrun4 hrun5;go_wp2_with fail;go_loopw [56] (fun i wq=>∃p:Nat,p≤s.size∧i=.int .i64 p∧Hid (EncT w wq true w1.heap.size (w1.heap.size+1) w5.heap.size s p)) (fun i _=>s.size - (Go.RowKit.intOf i).toNat)
        case atStart=>exact⟨0,by omega,rfl,ST.out⟩
        case round=>
         obtain⟨p,hp,rfl,hT⟩:=hrel;by_cases hps:p<s.size
         · have hpi:(p:Int)<(s.size:Int):=by omega
           have hone:=zoq s p hps;have hx:(s.extract p (p+1)).size≤10:=by rw[hone];exact Nat.le_of_ble_eq_true rfl
           have hput:=hT.out.put hps hs;rw[←hone] at hput;have HP:=hide hput;clear hone hput hx;go_wp2_with (go_at_call 93;refine HP.out.mono ?_;rintro e w6 ⟨rfl,t6⟩);go_roundw
           case rel=>exact⟨p+1,by omega,by go_num,t6⟩
           case measure=>simp[Go.RowKit.intOf];omega
         · obtain rfl:p=s.size:=by omega
           have hbb:=hT.out.bd;rw[List.take_of_length_le (by omega)] at hbb;have HBB:=hide hbb;clear hbb;go_wp2_with (go_at_call 36;refine(z47 _ _ _ HBB.out).mono ?_;rintro e w6 ⟨rfl,b6,g6⟩)
           go_ret2
           exact⟨rfl,hT.out.fr.of_below_new hT.out.lo.1 g6⟩
    · obtain⟨i,hi5,hni,hmem,hbi⟩:=zsz he;have hnx:∀ty,(Instr.next (.pointer (some ⟨w2.heap.size,0,none⟩)) false ty).run Tryz.prog wr=_:=fun ty=>hx;have st1:=hE.out.step hi5 hv;rw[hbi] at hnx;simp only at st1;obtain⟨W2,hW2⟩:∃W2,setBlock v w2.heap.size (.mapIter (some (w1.heap.size+1+1)) 5 (S.push i) 5)=W2:=⟨_,rfl⟩;rw[hW2] at hnx st1;have hent:=run_entry_at (P:=Tryz.prog) W2 w2.heap.size (w1.heap.size+1+1) 5 S nameEs 5 e (by rw[hbi];exact st1.2.1) st1.2.2.1 hmem (by decide);have hbox2:W2.cell? ⟨w1.heap.size+1,0,none⟩=some (.map (some w1.heap.size)):=by rw[cell_of_row _ _ 0 _ _ _ st1.2.2.2.1];rfl
      have hblt:w1.heap.size+1<W2.heap.size:=lt_of_block st1.2.2.2.1;have hSA:Hid (∀o,SMap (W2.alloc o) w1.heap.size (z48 attr S.toList)):=fun o=>st1.2.2.2.2.1.keep (Below.heap_alloc W2 o _ (by omega));have hbox3:∀o,(W2.alloc o).cell? ⟨w1.heap.size+1,0,none⟩=some (.map (some w1.heap.size)):=fun o=>by rw[World.cell?_alloc_past _ _ _ hblt];exact hbox2
      have st1:=hide st1;have HNI:=hide hni;clear hx he hni hW2 hv;simp only[nameEs,List.mem_cons,List.not_mem_nil,or_false] at hmem;rcases hmem with rfl|rfl|rfl|rfl|rfl
      · obtain rfl:i=0:=hbi.symm;simp only[z1y] at hnx hent;go_wp2_with (refine z1i rfl (.inl rfl) Tryz.underlying160 Tryz.underlying9 rfl rfl rfl (hSA.out _) ?_;intro w3 s3 f3 z3;go_frame);go_roundw
        case rel=>exact⟨_,hide (EncR.round hE.out.hm st1.out.1 st1.out.2.1 st1.out.2.2.1 st1.out.2.2.2.1 st1.out.2.2.2.2.2 f3 s3 (fun k=>((z1v attr S k).1).symm))⟩
        case measure=>rw[hpos0,z83 (EncR.round hE.out.hm st1.out.1 st1.out.2.1 st1.out.2.2.1 st1.out.2.2.2.1 st1.out.2.2.2.2.2 f3 s3 (fun k=>((z1v attr S k).1).symm)).iter];exact z4f _ _ (by omega) HNI.out
      · obtain rfl:i=1:=hbi.symm;simp only[z1y] at hnx hent;go_wp2_with (refine z1i rfl (.inl rfl) Tryz.underlying160 Tryz.underlying9 rfl rfl rfl (hSA.out _) ?_;intro w3 s3 f3 z3;go_frame);go_roundw
        case rel=>exact⟨_,hide (EncR.round hE.out.hm st1.out.1 st1.out.2.1 st1.out.2.2.1 st1.out.2.2.2.1 st1.out.2.2.2.2.2 f3 s3 (fun k=>((z1v attr S k).2.1).symm))⟩
        case measure=>rw[hpos0,z83 (EncR.round hE.out.hm st1.out.1 st1.out.2.1 st1.out.2.2.1 st1.out.2.2.2.1 st1.out.2.2.2.2.2 f3 s3 (fun k=>((z1v attr S k).2.1).symm)).iter];exact z4f _ _ (by omega) HNI.out
      · obtain rfl:i=2:=hbi.symm;simp only[z1y] at hnx hent;go_wp2_with (refine z1i rfl (.inl rfl) Tryz.underlying160 Tryz.underlying9 rfl rfl rfl (hSA.out _) ?_;intro w3 s3 f3 z3;go_frame);go_roundw
        case rel=>exact⟨_,hide (EncR.round hE.out.hm st1.out.1 st1.out.2.1 st1.out.2.2.1 st1.out.2.2.2.1 st1.out.2.2.2.2.2 f3 s3 (fun k=>((z1v attr S k).2.2.1).symm))⟩
        case measure=>rw[hpos0,z83 (EncR.round hE.out.hm st1.out.1 st1.out.2.1 st1.out.2.2.1 st1.out.2.2.2.1 st1.out.2.2.2.2.2 f3 s3 (fun k=>((z1v attr S k).2.2.1).symm)).iter];exact z4f _ _ (by omega) HNI.out
      · obtain rfl:i=3:=hbi.symm;simp only[z1y] at hnx hent
        cases attr with
        |true=>
         go_wp2_with (refine z1i rfl (.inl rfl) Tryz.underlying160 Tryz.underlying9 rfl rfl rfl (hSA.out _) ?_;intro w3 s3 f3 z3;go_frame)
         go_roundw
         case rel=>exact⟨_,hide (EncR.round hE.out.hm st1.out.1 st1.out.2.1 st1.out.2.2.1 st1.out.2.2.2.1 st1.out.2.2.2.2.2 f3 s3 (fun k=>((z1v true S k).2.2.2.1).symm))⟩
         case measure=>rw[hpos0,z83 (EncR.round hE.out.hm st1.out.1 st1.out.2.1 st1.out.2.2.1 st1.out.2.2.2.1 st1.out.2.2.2.2.2 f3 s3 (fun k=>((z1v true S k).2.2.2.1).symm)).iter];exact z4f _ _ (by omega) HNI.out
        |false=>
         go_wp2_with fail
         go_roundw
         case rel=>exact⟨_,hide (EncR.round hE.out.hm st1.out.1 st1.out.2.1 st1.out.2.2.1 st1.out.2.2.2.1 st1.out.2.2.2.2.2 (Fr.refl _ _) (hSA.out _) (fun k=>((z1v false S k).2.2.2.2.1).symm))⟩
         case measure=>rw[hpos0,z83 (EncR.round hE.out.hm st1.out.1 st1.out.2.1 st1.out.2.2.1 st1.out.2.2.2.1 st1.out.2.2.2.2.2 (Fr.refl _ _) (hSA.out _) (fun k=>((z1v false S k).2.2.2.2.1).symm)).iter];exact z4f _ _ (by omega) HNI.out
      · obtain rfl:i=4:=hbi.symm;simp only[z1y] at hnx hent;go_wp2_with fail;go_roundw
        case rel=>exact⟨_,hide (EncR.round hE.out.hm st1.out.1 st1.out.2.1 st1.out.2.2.1 st1.out.2.2.2.1 st1.out.2.2.2.2.2 (Fr.refl _ _) (hSA.out _) (fun k=>((z1v attr S k).2.2.2.2.2).symm))⟩
        case measure=>rw[hpos0,z83 (EncR.round hE.out.hm st1.out.1 st1.out.2.1 st1.out.2.2.1 st1.out.2.2.2.1 st1.out.2.2.2.2.2 (Fr.refl _ _) (hSA.out _) (fun k=>((z1v attr S k).2.2.2.2.2).symm)).iter];exact z4f _ _ (by omega) HNI.out
 · have hr:z61 attr s.data.toList=([],10):=by unfold z61;rw[if_neg hv]
   rw[hr];rw[zln hv] at HV;have HV:=hide HV;clear hr hv;generalize (z0h s.data.toList).1=vk at*;go_enter Tryz.func64,Tryz.ntmps64;go_wp2_with (go_at_call 45;refine HV.out.mono ?_;rintro e w1 ⟨rfl,f1⟩)
   go_ret2
   exact⟨rfl,f1⟩
end Go.Proofs.YtnlacmnoocigiaaGreatDoor
