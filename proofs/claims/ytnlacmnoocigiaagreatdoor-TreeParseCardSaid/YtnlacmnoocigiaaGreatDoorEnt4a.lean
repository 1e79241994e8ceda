/- the reference's UTF-8: Put, number, Next, Valid. -/
import Derived.Test.YtnlacmnoocigiaaGreatDoorEntAll
import Derived.Laws.BytesArg
import Derived.IntWalk
import Derived.Lib.IndexBytes
namespace Go.Proofs.YtnlacmnoocigiaaGreatDoor
open Go.RowKit Go.Lib
attribute [local go_sem ↓] Go.wp_at_zero Go.wp_at_succ
set_option maxHeartbeats 1000000 in
theorem zsh (c:Int)(w:World)(h:isC c=true):Calls Tryz.prog 95 #[.int .i64 c] w fun e w'=>e=.returned (.bool true)∧w=w':=by
 simp only[isC,decide_eq_true_eq] at h;have hh:c=9∨c=10∨c=13∨(32≤c∧c≤55295)∨(57344≤c∧c≤65533)∨(65536≤c∧c≤1114111):=by omega
 clear h;rcases hh with rfl|rfl|rfl|⟨h1,h2⟩|⟨h1,h2⟩|⟨h1,h2⟩
 all_goals try
  have e9:(c==9)=false:=by simp;omega
  have e10:(c==10)=false:=by simp;omega
  have e13:(c==13)=false:=by simp;omega
 all_goals
  go_enter Tryz.func95,Tryz.ntmps95;go_wp2;go_ret;exact⟨rfl,rfl⟩
set_option maxHeartbeats 2000000 in
theorem zoc (c:Int)(w:World)(h:isC c=false):Calls Tryz.prog 95 #[.int .i64 c] w fun e w'=>e=.returned (.bool false)∧w=w':=by
 simp only[isC,decide_eq_false_iff_not] at h;have e9:(c==9)=false:=by simp;omega
 have e10:(c==10)=false:=by simp;omega
 have e13:(c==13)=false:=by simp;omega
 have hh:c<32∨(32≤c∧55295<c∧c<57344)∨(32≤c∧55295<c∧57344≤c∧65533<c∧c<65536)∨(32≤c∧55295<c∧57344≤c∧65533<c∧65536≤c∧1114111<c):=by omega
 clear h;rcases hh with h1|⟨h1,h2,h3⟩|⟨h1,h2,h3,h4,h5⟩|⟨h1,h2,h3,h4,h5,h6⟩
 all_goals
  go_enter Tryz.func95,Tryz.ntmps95;go_wp2;go_ret;refine⟨?_,rfl⟩
  first
   |rfl
   |(show Ending.returned (.bool _)=_;congr 2;simp;omega)
theorem zi5 (c:Int)(w:World):Calls Tryz.prog 95 #[.int .i64 c] w fun e w'=>e=.returned (.bool (isC c))∧w=w':=by
 cases h:isC c with
 |true=>exact zsh c w h
 |false=>exact zoc c w h
theorem zak (w:World)(xs:List Int):(convert 87 9 (.slice (some ⟨w.heap.size,0,none⟩) xs.length xs.length)).run Tryz.prog (w.alloc (.cells (xs.map (Value.int .u8)).toArray 5))=.ok (.string (strOfNums xs)) (w.alloc (.cells (xs.map (Value.int .u8)).toArray 5)):=run_convert_bytes_arg _ 87 5 Tryz.underlying87 Tryz.underlying5 _ 0 _ _ xs rfl (fun i hi=>by have hb:=heap_alloc_new w (.cells (xs.map (Value.int .u8)).toArray 5);rw[Nat.zero_add];unfold World.cell?;simp only[hb];simp[hi]) 9 Tryz.underlying9
theorem zvw (c:Int)(xs:List Int)(h:encodeRuneZ c=xs)(hc:isC c=true):strOfNums xs=⟨(putL c).toArray⟩:=by unfold putL encodeRune;rw[if_pos hc,h];rfl
set_option maxRecDepth 100000 in
set_option maxHeartbeats 2000000 in
theorem zjw (c:Int)(w:World):Calls Tryz.prog 96 #[.int .i64 c] w fun e w'=>e=.returned (.string ⟨(putL c).toArray⟩)∧Fr (fun _=>False) w w':=by
 have HI:=hide (zi5 c w)
 cases hc:isC c with
 |false=>
  have he:putL c=[]:=by simp[putL,hc]
  rw[hc] at HI;rw[he];clear hc he;go_enter Tryz.func96,Tryz.ntmps96;go_wp2_with (go_at_call 95;refine HI.out.mono ?_;rintro e w1 ⟨rfl,rfl⟩);go_ret;exact⟨rfl,Fr.refl _ _⟩
 |true=>
  rw[hc] at HI;have hh:=hc;simp only[isC,decide_eq_true_eq] at hh;have hr:(0≤c∧c≤127)∨(127<c∧128≤c∧c≤2047)∨(127<c∧2047<c∧c≤65535)∨(127<c∧2047<c∧65535<c∧c≤1114111):=by omega
  have HS:=hide (fun xs h=>zvw c xs h hc);have HH:=hide hh;clear hh hc;generalize (⟨(putL c).toArray⟩:ByteArray)=r at*;rcases hr with ⟨h1,h2⟩|⟨h0,h1,h2⟩|⟨h00,h0,h1⟩|⟨h00,h0,h1,h2⟩
  · have hcv:=zak w [c];simp only[List.map_cons,List.map_nil,List.length_cons,List.length_nil,Nat.zero_add] at hcv;go_enter Tryz.func96,Tryz.ntmps96;go_wp2_with (go_at_call 95;refine HI.out.mono ?_;rintro e w1 ⟨rfl,rfl⟩);go_ret;exact⟨by rw[←HS.out _ (encodeRuneZ_one h1 h2)];rfl,Fr.alloc (Fr.refl _ _) _⟩
  · have hcv:=zak w [192+c / 64,128+c % 64];simp only[List.map_cons,List.map_nil,List.length_cons,List.length_nil,Nat.zero_add,Nat.reduceAdd] at hcv;go_enter Tryz.func96,Tryz.ntmps96;go_wp2_with (go_at_call 95;refine HI.out.mono ?_;rintro e w1 ⟨rfl,rfl⟩);go_ret;exact⟨by rw[←HS.out _ (encodeRuneZ_two h1 h2)];rfl,Fr.alloc (Fr.refl _ _) _⟩
  · have hcv:=zak w [224+c / 4096,128+c / 64 % 64,128+c % 64];simp only[List.map_cons,List.map_nil,List.length_cons,List.length_nil,Nat.zero_add,Nat.reduceAdd] at hcv;go_enter Tryz.func96,Tryz.ntmps96;go_wp2_with (go_at_call 95;refine HI.out.mono ?_;rintro e w1 ⟨rfl,rfl⟩);go_ret;exact⟨by rw[←HS.out _ (encodeRuneZ_three (by have:=HH.out;omega))];rfl,Fr.alloc (Fr.refl _ _) _⟩
  · have hcv:=zak w [240+c / 262144,128+c / 4096 % 64,128+c / 64 % 64,128+c % 64];simp only[List.map_cons,List.map_nil,List.length_cons,List.length_nil,Nat.zero_add,Nat.reduceAdd] at hcv;go_enter Tryz.func96,Tryz.ntmps96;go_wp2_with (go_at_call 95;refine HI.out.mono ?_;rintro e w1 ⟨rfl,rfl⟩);go_ret;exact⟨by rw[←HS.out _ (encodeRuneZ_four (by omega) h2)];rfl,Fr.alloc (Fr.refl _ _) _⟩
theorem z5a (s:ByteArray)(i:Nat)(h:i<s.size):((s[i]'h).toNat:Int)=byteAt s.data.toList i:=by
 unfold byteAt;have:s.data.toList[i]? =some (s[i]'h):=by rw[Array.getElem?_toList,Array.getElem?_eq_getElem h];rfl
 rw[this];rfl
set_option maxRecDepth 100000 in
set_option maxHeartbeats 4000000 in
theorem zsi (s:ByteArray)(n:Nat)(w:World)(h1:1≤n)(h4:n≤4)(hn:n≤s.size):Calls Tryz.prog 94 #[.string s,.int .i64 n] w fun e w'=>e=.returned (.int .i64 (z1b s.data.toList n))∧Fr (fun _=>False) w w':=by
 have hb:∀i,i<s.size→byteAt s.data.toList i<256:=fun i hi=>by unfold byteAt;exact UInt8.toNat_lt _
 have hcase:n=1∨n=2∨n=3∨n=4:=by omega
 have h0:0<s.size:=by omega
 have b0:(s[0]'h0).toNat<256:=UInt8.toNat_lt _;have hq:=heap_alloc_new w (.cells #[.int .i64 0,.int .i64 256,.int .i64 192,.int .i64 224,.int .i64 240] 3);rcases hcase with rfl|rfl|rfl|rfl
 · have HX:=hide (z5a s 0 h0);clear hq hb;go_enter Tryz.func94,Tryz.ntmps94;go_wp2_with fail;go_ret;exact⟨by unfold z1b;rw[←HX.out];rfl,Fr.alloc (Fr.refl _ _) _⟩
 · have q2:=cell_of_row _ w.heap.size 2 _ _ _ hq;have HX:=hide (And.intro (z5a s 0 (by omega)) (z5a s 1 (by omega)));have b1:(s[1]'(by omega)).toNat<256:=UInt8.toNat_lt _;clear hq hb;go_enter Tryz.func94,Tryz.ntmps94;go_wp2_with fail;have e0:IntKind.i64.wrap ((s[0]'h0).toNat:Int)=(s[0]'h0).toNat:=IntWalk.i64_in _ (by omega);have e1:IntKind.i64.wrap (((s[0]'h0).toNat:Int) - 192)=(s[0]'h0).toNat - 192:=IntWalk.i64_in _ (by omega);go_quiet (fail);clear e0 e1;go_wp2_with fail;refine wp_loop_rounds 3 ?_;rw[rounds_succ];go_wp2_with fail;rw[rounds_succ];go_wp2_with fail;go_ret;exact⟨by unfold z1b;rw[←HX.out.1,←HX.out.2];rfl,(Fr.alloc (Fr.refl _ _) _).drewN _⟩
 · have q3:=cell_of_row _ w.heap.size 3 _ _ _ hq;have HX:=hide (And.intro (z5a s 0 (by omega)) (And.intro (z5a s 1 (by omega)) (z5a s 2 (by omega))));have b1:(s[1]'(by omega)).toNat<256:=UInt8.toNat_lt _;have b2:(s[2]'(by omega)).toNat<256:=UInt8.toNat_lt _;clear hq hb;go_enter Tryz.func94,Tryz.ntmps94;go_wp2_with fail;have e0:IntKind.i64.wrap ((s[0]'h0).toNat:Int)=(s[0]'h0).toNat:=IntWalk.i64_in _ (by omega);have e1:IntKind.i64.wrap (((s[0]'h0).toNat:Int) - 224)=(s[0]'h0).toNat - 224:=IntWalk.i64_in _ (by omega);go_quiet (fail);clear e0 e1;go_wp2_with fail;refine wp_loop_rounds 4 ?_;rw[rounds_succ];go_wp2_with fail;rw[rounds_succ];go_wp2_with fail;rw[rounds_succ];go_wp2_with fail;go_ret;exact⟨by unfold z1b;rw[←HX.out.1,←HX.out.2.1,←HX.out.2.2];rfl,(Fr.alloc (Fr.refl _ _) _).drewN _⟩
 · have q4:=cell_of_row _ w.heap.size 4 _ _ _ hq;have HX:=hide (And.intro (z5a s 0 (by omega)) (And.intro (z5a s 1 (by omega)) (And.intro (z5a s 2 (by omega)) (z5a s 3 (by omega)))));have b1:(s[1]'(by omega)).toNat<256:=UInt8.toNat_lt _;have b2:(s[2]'(by omega)).toNat<256:=UInt8.toNat_lt _;have b3:(s[3]'(by omega)).toNat<256:=UInt8.toNat_lt _;clear hq hb;go_enter Tryz.func94,Tryz.ntmps94;go_wp2_with fail;have e0:IntKind.i64.wrap ((s[0]'h0).toNat:Int)=(s[0]'h0).toNat:=IntWalk.i64_in _ (by omega);have e1:IntKind.i64.wrap (((s[0]'h0).toNat:Int) - 240)=(s[0]'h0).toNat - 240:=IntWalk.i64_in _ (by omega);go_quiet (fail);clear e0 e1;go_wp2_with fail;refine wp_loop_rounds 5 ?_;rw[rounds_succ];go_wp2_with fail;rw[rounds_succ];go_wp2_with fail;rw[rounds_succ];go_wp2_with fail;rw[rounds_succ];go_wp2_with fail;go_ret;exact⟨by unfold z1b;rw[←HX.out.1,←HX.out.2.1,←HX.out.2.2.1,←HX.out.2.2.2];rfl,(Fr.alloc (Fr.refl _ _) _).drewN _⟩
end Go.Proofs.YtnlacmnoocigiaaGreatDoor
namespace Go.Proofs.YtnlacmnoocigiaaGreatDoor
open Go.RowKit Go.Lib
attribute [local go_sem ↓] Go.wp_at_zero Go.wp_at_succ
theorem za4 (s:ByteArray)(k:Nat):(s.extract 0 k).data.toList=s.data.toList.take k:=by rw[z1x];simp
theorem zfp {a b:ByteArray}(h:a.data.toList=b.data.toList):a=b:=by have:a.data=b.data:=Array.toList_inj.1 h;cases a;cases b;simp_all
theorem zd0 {l:List UInt8}(h:z3i l=none)(h0:l≠[]):z0u l=(0,0,10):=by simp[z0u,h,h0]
theorem zi6 {l:List UInt8}{k:Nat}(h:z6i l k=true):z0u l=(z1b l k,k,0):=by
 have hn:=(zbg l k).1 h;have hc:=(z15 hn).1;have h0:0≤z1b l k:=by simp only[z6i,Bool.and_eq_true] at h;have:=h.1.2;simp only[isC,decide_eq_true_eq] at this;omega
 simp only[z0u,hn];rw[Int.toNat_of_nonneg h0]
set_option maxRecDepth 100000 in
set_option maxHeartbeats 4000000 in
theorem zfq (s:ByteArray)(w:World)(hs:s.size≤1000000):Calls Tryz.prog 65 #[.string s] w fun e w'=>
 e=.returned (.tuple #[.int .i64 (z0u s.data.toList).1,.int .i64 (z0u s.data.toList).2.1,.int .i64 (z0u s.data.toList).2.2])∧Fr (fun _=>False) w w':=by
 have hl:s.data.toList.length=s.size:=rfl;obtain⟨r1,r2,r3,hr⟩:∃a b c,z0u s.data.toList=(a,b,c):=⟨_,_,_,rfl⟩;rw[hr];have HR:=hide hr;clear hr;by_cases h1:1≤s.size
 · have hE:=z2c h1;have hE2:=z6d h1;go_enter Tryz.func65,Tryz.ntmps65;go_wp2_with fail;go_loopw [5] (fun i wr=>∃k:Nat,1≤k∧k≤5∧i=.int .i64 k∧Hid (Fr (fun _=>False) w wr)∧Hid (∀m,m<k→z6i s.data.toList m=false)) (fun i _=>5 - (intOf i).toNat)
   case atStart=>exact⟨1,by omega,by omega,rfl,Fr.refl _ _,fun m hm=>by simp[z6i];omega⟩
   case round=>
    obtain⟨k,hk1,hk5,rfl,hfr,hno⟩:=hrel;by_cases hk:k≤4∧k≤s.size
    · obtain⟨hk4,hks⟩:=hk;have HN:=hide (zsi s k wr hk1 hk4 hks);have HS:Hid (∀m,m<k+1→m≠k→z6i s.data.toList m=false):=fun m hm hne=>hno.out m (by omega)
      cases hc:isC (z1b s.data.toList k) with
      |false=>
       have hok:=hide (show z6i s.data.toList k=false by simp[z6i,hc]);have HI:=fun W=>zi5 (z1b s.data.toList k) W;rw[hc] at HI;have HI:=hide HI;clear hc;generalize z1b s.data.toList k=c at*;go_wp2_with fail;refine HN.out.mono ?_;rintro e w1 ⟨rfl,f1⟩;go_wp2_with fail;go_quiet ((go_at_call 95;exact z1h (HI.out _)));go_wp2_with fail;go_roundw
       case rel=>exact⟨k+1,by omega,by omega,by go_num,(hfr.out.trans f1).drewN _,fun m hm=>by
        by_cases hmk:m=k
        · rw[hmk];exact hok.out
        · exact HS.out m hm hmk⟩
       case measure=>simp[intOf];omega
      |true=>
       have HI:=fun W=>zi5 (z1b s.data.toList k) W;rw[hc] at HI;have HI:=hide HI;have HP:=fun W=>zjw (z1b s.data.toList k) W;by_cases hp:putL (z1b s.data.toList k)=s.data.toList.take k
       · have hok:z6i s.data.toList k=true:=by simp only[z6i,Bool.and_eq_true,decide_eq_true_eq];exact⟨⟨⟨hk1,hk4,by omega⟩,hc⟩,hp⟩
         have he:(⟨(putL (z1b s.data.toList k)).toArray⟩:ByteArray)=s.extract 0 k:=zfp (by rw[za4,hp]);rw[he] at HP;have HP:=hide HP;have hres:=HR.out;rw[zi6 hok] at hres;simp only[Prod.mk.injEq] at hres;obtain⟨hr1,rfl,rfl⟩:=hres;clear hc hp hok he HS hno HR;generalize z1b s.data.toList k=c at*;subst hr1;go_wp2_with fail;refine HN.out.mono ?_;rintro e w1 ⟨rfl,f1⟩;go_wp2_with fail
         go_region_held3 (fun _=>True) (first|trivial)
          (first
           |(go_at_call 95;refine(HI.out _).mono ?_;rintro e w2 ⟨rfl,rfl⟩)
           |(go_at_call 96;refine(HP.out _).mono ?_;rintro e w2 ⟨rfl,f2⟩))
         go_wp2_with fail
         go_returns;exact⟨rfl,(hfr.out.trans f1).then_ (Fr.trans (Fr.drew (Fr.refl _ _)) f2) (fun _ _ h=>h)⟩
       · have hok:=hide (show z6i s.data.toList k=false by
          cases hq:z6i s.data.toList k with
          |false=>rfl
          |true=>simp only[z6i,Bool.and_eq_true,decide_eq_true_eq] at hq;exact absurd hq.2 hp)
         have hne:=zug (P:=⟨(putL (z1b s.data.toList k)).toArray⟩) (Q:=s.extract 0 k) (fun hq=>hp (by rw[←za4,←hq]));generalize (⟨(putL (z1b s.data.toList k)).toArray⟩:ByteArray)=P at*;have HP:=hide HP;clear hc hp;generalize z1b s.data.toList k=c at*;go_wp2_with fail;refine HN.out.mono ?_;rintro e w1 ⟨rfl,f1⟩;go_wp2_with fail
         go_region_held3 (fun _=>True) (first|trivial)
          (first
           |(go_at_call 95;refine(HI.out _).mono ?_;rintro e w2 ⟨rfl,rfl⟩)
           |(go_at_call 96;refine(HP.out _).mono ?_;rintro e w2 ⟨rfl,f2⟩))
         go_wp2_with fail
         go_roundw
         case rel=>exact⟨k+1,by omega,by omega,by go_num,(hfr.out.trans f1).then_ (Fr.trans (Fr.drew (Fr.refl _ _)) f2) (fun _ _ h=>h),fun m hm=>by
          by_cases hmk:m=k
          · rw[hmk];exact hok.out
          · exact HS.out m hm hmk⟩
         case measure=>simp[intOf];omega
    · have hn:z3i s.data.toList=none:=by
       cases hq:z3i s.data.toList with
       |none=>rfl
       |some r=>obtain⟨x,m⟩:=r;obtain⟨-, -, -,g1,g2,g3⟩:=z15 hq;have:=hno.out m (by omega);rw[(zoe hq).1] at this;cases this
      have hres:=HR.out;rw[zd0 hn (fun h0=>by rw[h0] at hl;simp at hl;omega)] at hres;simp only[Prod.mk.injEq] at hres;obtain⟨rfl,rfl,rfl⟩:=hres;clear hn;have hor:4<k∨(k≤4∧s.size<k):=by omega
      clear hk;rcases hor with g1|⟨g1,g2⟩
      all_goals
       go_wp2_with fail
       go_returns;exact⟨rfl,hfr.out⟩
 · have h0:s.data.toList=[]:=List.eq_nil_of_length_eq_zero (by omega);have hE:s.toList.isEmpty=true:=by rw[toList_data,h0];rfl
   have hE2:s.toList=[]:=by rw[toList_data,h0]
   have hres:=HR.out;rw[h0] at hres;simp only[z0u,z8r,if_true,Prod.mk.injEq] at hres;obtain⟨rfl,rfl,rfl⟩:=hres;clear h0;go_enter Tryz.func65,Tryz.ntmps65;go_wp2_with fail;go_returns;exact⟨rfl,Fr.refl _ _⟩
set_option maxRecDepth 100000 in
set_option maxHeartbeats 2000000 in
theorem zlk (s:ByteArray)(w:World)(hs:s.size≤1000000):Calls Tryz.prog 37 #[.string s] w fun e w'=>
 e=.returned (.tuple #[.int .i64 (z0h s.data.toList).1,.int .i64 (z0h s.data.toList).2])∧Fr (fun _=>False) w w':=by
 have hl:s.data.toList.length=s.size:=rfl;obtain⟨r1,r2,hr⟩:∃a b,z0h s.data.toList=(a,b):=⟨_,_,rfl⟩;rw[hr];unfold z0h at hr;rw[hl] at hr;have HR:=hide hr;clear hr;go_enter Tryz.func37,Tryz.ntmps37;go_wp2_with fail;go_loopw [4] (fun i wr=>∃p f:Nat,p≤s.size∧i=.int .i64 p∧Hid (Fr (fun _=>False) w wr)∧Hid (p+z60 f (s.data.toList.drop p)=z60 s.size s.data.toList∧s.size≤p+f)) (fun i _=>s.size - (intOf i).toNat)
 case atStart=>exact⟨0,s.size,by omega,rfl,Fr.refl _ _,by simp,by omega⟩
 case round=>
  obtain⟨p,f,hps,rfl,hfr,hg⟩:=hrel;by_cases hp:p<s.size
  · obtain⟨f,rfl⟩:∃f',f=f'+1:=⟨f - 1,by have:=hg.out.2;omega⟩;have hext:(s.extract p s.size).data.toList=s.data.toList.drop p:=extract_to_end s p;have hsz:(s.extract p s.size).size≤1000000:=by have:(s.extract p s.size).data.toList.length=(s.extract p s.size).size:=rfl;rw[hext,List.length_drop] at this;omega
    have HN:=zfq (s.extract p s.size) wr hsz;rw[hext] at HN
    cases hn:z3i (s.data.toList.drop p) with
    |some r=>
     obtain⟨x,k⟩:=r;obtain⟨-, -, -,g1,g2,g3⟩:=z15 hn;rw[List.length_drop] at g1;simp only[z0u,hn] at HN;have HN:=hide HN;have hgo:=hg.out.1;simp only[z60,hn,List.drop_drop] at hgo;have HG:=hide hgo;have hpk:p+k≤s.size:=by omega
     clear hn hgo hext hsz g1;go_wp2_with (go_at_call 65;refine HN.out.mono ?_;rintro e w1 ⟨rfl,f1⟩);go_roundw
     case rel=>exact⟨p+k,f,by omega,by go_num,hfr.out.trans f1,by have:=HG.out;omega,by have:=hg.out.2;omega⟩
     case measure=>simp[intOf];omega
    |none=>rw[zd0 hn (fun h0=>by have:=congrArg List.length h0;rw[List.length_drop] at this;simp at this;omega)] at HN;have HN:=hide HN;have hgo:=hg.out.1;simp only[z60,hn,Nat.add_zero] at hgo;have hres:=HR.out;rw[←hgo,if_pos hp] at hres;simp only[Prod.mk.injEq] at hres;obtain⟨rfl,rfl⟩:=hres;clear hn hgo hext hsz;go_wp2_with (go_at_call 65;refine HN.out.mono ?_;rintro e w1 ⟨rfl,f1⟩);go_returns;exact⟨rfl,hfr.out.trans f1⟩
  · obtain rfl:p=s.size:=by omega
    have hgo:=hg.out.1;have hres:=HR.out;rw[←hgo,if_neg (by omega)] at hres;simp only[Prod.mk.injEq] at hres;obtain⟨rfl,rfl⟩:=hres;clear hgo;go_wp2_with fail;go_returns;exact⟨rfl,hfr.out⟩
end Go.Proofs.YtnlacmnoocigiaaGreatDoor
