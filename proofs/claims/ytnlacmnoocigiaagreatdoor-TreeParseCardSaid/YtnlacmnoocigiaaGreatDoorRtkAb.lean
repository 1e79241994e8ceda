/- the reference's tokens: blank, Blank, blanks, has, find. -/
import Derived.Test.YtnlacmnoocigiaaGreatDoorNamCd
import Derived.Test.YtnlacmnoocigiaaGreatDoorTokR
import Derived.Test.YtnlacmnoocigiaaGreatDoorTreJk
import Derived.Test.YtnlacmnoocigiaaGreatDoorTokAb
namespace Go.Proofs.YtnlacmnoocigiaaGreatDoor
open Go.RowKit Go.Lib
attribute [local go_sem ↓] Go.wp_at_zero Go.wp_at_succ
set_option maxHeartbeats 1000000 in
theorem zbn (b:UInt8)(w:World):Calls Tryz.prog 71 #[.int .u8 (b.toNat:Int)] w fun e w'=>e=.returned (.bool (z0z b))∧w=w':=by
 have h:z0z b=(((((b.toNat:Int)==32)||((b.toNat:Int)==9))||((b.toNat:Int)==10))||((b.toNat:Int)==13)):=by
  have:∀c:UInt8,(b==c)=((b.toNat:Int)==(c.toNat:Int)):=fun c=>by
   rw[Bool.eq_iff_iff,beq_iff_eq,beq_iff_eq];constructor
   · intro h;rw[h]
   · intro h;exact UInt8.toNat_inj.1 (by omega)
  unfold z0z;rw[this 32,this 9,this 10,this 13];rfl
 rw[h];clear h;generalize (b.toNat:Int)=x
 cases h1:(x==32) with
 |true=>
  obtain rfl:x=32:=by simpa using h1
  go_enter Tryz.func71,Tryz.ntmps71;go_wp2;go_ret;exact⟨rfl,rfl⟩
 |false=>
  cases h2:(x==9) with
  |true=>
   obtain rfl:x=9:=by simpa using h2
   go_enter Tryz.func71,Tryz.ntmps71;go_wp2;go_ret;exact⟨rfl,rfl⟩
  |false=>
   cases h3:(x==10) with
   |true=>
    obtain rfl:x=10:=by simpa using h3
    go_enter Tryz.func71,Tryz.ntmps71;go_wp2;go_ret;exact⟨rfl,rfl⟩
   |false=>go_enter Tryz.func71,Tryz.ntmps71;go_wp2;go_ret;exact⟨by simp only[Bool.false_or];rfl,rfl⟩
theorem zw7 {l:List UInt8}{k:Nat}{b:UInt8}(hk:k≤nB l)(hb:l[k]? =some b):(z0z b=true→k+1≤nB l)∧(z0z b=false→k=nB l):=by
 constructor
 · intro hL;rcases Nat.lt_or_ge k (nB l) with h|h
   · exact h
   · obtain rfl:k=nB l:=by omega
     rw[zuj hb] at hL;cases hL
 · intro hL;rcases Nat.lt_or_ge k (nB l) with h|h
   · obtain⟨c,hc,hcL⟩:=zpl h;rw[hb] at hc;cases hc;rw[hL] at hcL;cases hcL
   · omega
set_option maxHeartbeats 2000000 in
theorem z62 (s:ByteArray)(p:Nat)(w:World)(hs:s.size≤1000000)(hp:p≤s.size):Calls Tryz.prog 69 #[.string s,.int .i64 p] w fun e w'=>e=.returned (.int .i64 (nB (s.data.toList.drop p)))∧w=w':=by
 have hle:=zil (s.data.toList.drop p);have hsz:s.data.toList.length=s.size:=rfl;rw[List.length_drop,hsz] at hle;have HSZ:=hide hsz;clear hsz;go_enter Tryz.func69,Tryz.ntmps69;go_wp2_with fail;go_loop [5] (fun n=>∃k:Nat,n=.int .i64 k∧p+k≤s.size∧Hid (k≤nB (s.data.toList.drop p))) (fun n=>s.size - (Go.RowKit.intOf n).toNat)
 case atStart=>exact⟨0,rfl,by omega,hide (Nat.zero_le _)⟩
 case round=>
  obtain⟨k,rfl,hk,hkl⟩:=hrel;by_cases hlt:p+k<s.size
  · have hi:(p:Int)+k<s.size:=by omega
    have hget:=z0y s (p+k) hlt;rw[←List.getElem?_drop] at hget;have HS:=hide (zw7 hkl.out hget);have hb:=zbn (s[p+k]'hlt) w;have hidx:∀W:World,(Instr.index 9 (.string s) (.int .i64 ((p:Int)+k))).run Tryz.prog W=.ok (.int .u8 ((s[p+k]'hlt).toNat:Int)) W:=fun W=>by rw[run_index_string (P:=Tryz.prog) W 9 s .i64 _ Tryz.underlying9,dif_pos ⟨by omega,by omega⟩];simp only[show ((p:Int)+k).toNat=p+k by omega]
    clear hget
    cases hB:z0z (s[p+k]'hlt) with
    |true=>
     rw[hB] at hb;have HG:=hide (HS.out.1 hB);clear hB;go_wp2_with (go_at_call 71;refine hb.mono ?_;rintro e w' ⟨rfl,rfl⟩);go_round
     case rel=>exact⟨k+1,by go_num,by omega,HG⟩
     case measure=>simp[Go.RowKit.intOf];omega
    |false=>rw[hB] at hb;have HG:=hide (HS.out.2 hB);clear hB;go_wp2_with (go_at_call 71;refine hb.mono ?_;rintro e w' ⟨rfl,rfl⟩);go_ret;exact⟨by rw[←HG.out];rfl,rfl⟩
  · have hi:¬(p:Int)+k<s.size:=by omega
    have HG:=hide (show k=nB (s.data.toList.drop p) by have:=hkl.out;omega);have hd:decide ((p:Int)+k<s.size)=false:=decide_eq_false hi;clear hi;go_wp2_with fail;go_ret;exact⟨by rw[←HG.out];rfl,rfl⟩
set_option maxHeartbeats 1000000 in
theorem z4m (s t:ByteArray)(p:Nat)(w:World)(hs:s.size≤1000000)(ht:t.size≤1000000)(hp:p≤s.size):Calls Tryz.prog 66 #[.string s,.int .i64 p,.string t] w fun e w'=>e=.returned (.bool (hasPrefix (s.data.toList.drop p) t.data.toList))∧w=w':=by
 have hsz:s.data.toList.length=s.size:=rfl;have htz:t.data.toList.length=t.size:=rfl;have h:=hasPrefix_of_take (s.data.toList.drop p) t.data.toList;rw[←h];clear h;by_cases hle:p+t.size≤s.size
 · have hi:(p:Int)+t.size≤s.size:=by omega
   rw[decide_eq_true (show t.data.toList.length≤(s.data.toList.drop p).length by rw[List.length_drop];omega),Bool.true_and];have hx:((s.extract p (p+t.size)).toList==t.toList)=((s.data.toList.drop p).take t.data.toList.length==t.data.toList):=by rw[ByteArray.toList_eq,ByteArray.toList_eq,z08,htz];congr 2;omega
   rw[←hx];have HX:=hide hx;clear hx hsz htz;have hsl:∀W:World,(Instr.slice 9 (.string s) (some (.int .i64 (p:Int))) (some (.int .i64 ((p:Int)+t.size))) none).run Tryz.prog W=.ok (.string (s.extract p (p+t.size))) W:=fun W=>by rw[run_slice_string_if (P:=Tryz.prog) W 9 s .i64 .i64 _ _ Tryz.underlying9,if_pos ⟨by omega,by omega⟩,if_pos ⟨by omega,by omega⟩];congr 3
   go_enter Tryz.func66,Tryz.ntmps66;go_wp2;go_ret;exact⟨rfl,rfl⟩
 · have hi:¬(p:Int)+t.size≤s.size:=by omega
   have hd:decide ((p:Int)+t.size≤s.size)=false:=decide_eq_false hi;rw[decide_eq_false (show ¬t.data.toList.length≤(s.data.toList.drop p).length by rw[List.length_drop];omega),Bool.false_and];clear hi hsz htz;go_enter Tryz.func66,Tryz.ntmps66;go_wp2;go_ret;exact⟨rfl,rfl⟩
def zbo (t l:List UInt8)(p:Nat):Int:=match z2t t l with
 |some i=>((p+i:Nat):Int)
 |none=> -1
theorem zd8 {t l:List UInt8}{b:UInt8}:z2t t (b::l)=if hasPrefix (b::l) t=true then some 0 else(z2t t l).map (· +1):=rfl
set_option maxHeartbeats 2000000 in
theorem zal (s t:ByteArray)(p:Nat)(w:World)(hs:s.size≤1000000)(ht:t.size≤1000000)(hp:p≤s.size):Calls Tryz.prog 38 #[.string s,.int .i64 p,.string t] w fun e w'=>e=.returned (.int .i64 (zbo t.data.toList (s.data.toList.drop p) p))∧w=w':=by
 obtain⟨R,hR⟩:∃R,zbo t.data.toList (s.data.toList.drop p) p=R:=⟨_,rfl⟩;rw[hR];have HR:=hide hR;clear hR;go_enter Tryz.func38,Tryz.ntmps38;go_wp2_with fail;go_loop [7] (fun n=>∃k:Nat,n=.int .i64 k∧k≤s.size∧Hid (zbo t.data.toList (s.data.toList.drop k) k=R)) (fun n=>s.size - (Go.RowKit.intOf n).toNat)
 case atStart=>exact⟨p,rfl,hp,HR⟩
 case round=>
  obtain⟨k,rfl,hk,hkr⟩:=hrel;by_cases hlt:k<s.size
  · have hi:(k:Int)<s.size:=by omega
    have hh:=z4m s t k w hs ht hk;have hcons:s.data.toList.drop k=(s[k]'hlt)::s.data.toList.drop (k+1):=List.drop_eq_getElem_cons (l:=s.data.toList) (i:=k) hlt
    have HK:=hide (show zbo t.data.toList (s.data.toList.drop k) k=if hasPrefix (s.data.toList.drop k) t.data.toList=true then(k:Int) else zbo t.data.toList (s.data.toList.drop (k+1)) (k+1) by
     unfold zbo
     conv=>lhs;rw[hcons,zd8,←hcons]
     by_cases hb:hasPrefix (s.data.toList.drop k) t.data.toList=true
     · rw[if_pos hb,if_pos hb];rfl
     · rw[if_neg hb,if_neg hb]
       cases z2t t.data.toList (s.data.toList.drop (k+1)) with
       |none=>rfl
       |some i=>simp only[Option.map_some];omega)
    clear hcons
    cases hB:hasPrefix (s.data.toList.drop k) t.data.toList with
    |true=>rw[hB] at hh;have HG:=hide (show (k:Int)=R by rw[←hkr.out,HK.out,hB,if_pos rfl]);clear hB;go_wp2_with (go_at_call 66;refine hh.mono ?_;rintro e w' ⟨rfl,rfl⟩);go_ret;exact⟨by rw[←HG.out];rfl,rfl⟩
    |false=>
     rw[hB] at hh;have HG:=hide (show zbo t.data.toList (s.data.toList.drop (k+1)) (k+1)=R by rw[←hkr.out,HK.out,hB,if_neg (by decide)]);clear hB;go_wp2_with (go_at_call 66;refine hh.mono ?_;rintro e w' ⟨rfl,rfl⟩);go_round
     case rel=>exact⟨k+1,by go_num,by omega,HG⟩
     case measure=>simp[Go.RowKit.intOf];omega
  · obtain rfl:k=s.size:=by omega
    have HG:=hide (show R= -1 by rw[←hkr.out,List.drop_of_length_le (show s.data.toList.length≤s.size from Nat.le_refl _)];rfl);go_wp2_with fail;go_ret;exact⟨by rw[HG.out];rfl,rfl⟩
end Go.Proofs.YtnlacmnoocigiaaGreatDoor
namespace Go.Proofs.YtnlacmnoocigiaaGreatDoor
open Go.RowKit Go.Lib
attribute [local go_sem ↓] Go.wp_at_zero Go.wp_at_succ
set_option maxHeartbeats 2000000 in
theorem zie (s:ByteArray)(p:Nat)(w:World)(hs:s.size≤900000)(hp:p≤s.size):Calls Tryz.prog 40 #[.string s,.int .i64 p] w fun e w'=>e=.returned (.int .i64 (z0c (s.data.toList.drop p)))∧w=w':=by
 have hsz:s.data.toList.length=s.size:=rfl;have h1:=z4m s ⟨#[60,33,45,45]⟩ p w (by omega) (by decide) hp;have h2:=z4m s ⟨#[60,63]⟩ p w (by omega) (by decide) hp;rw[show (⟨#[60,33,45,45]⟩:ByteArray).data.toList=[60,33,45,45] from rfl] at h1;rw[show (⟨#[60,63]⟩:ByteArray).data.toList=[60,63] from rfl] at h2
 cases c1:hasPrefix (s.data.toList.drop p) [60,33,45,45] with
 |true=>
  have hlen:=z2y c1;rw[List.length_drop] at hlen;simp only[List.length_cons,List.length_nil] at hlen
  have c2:hasPrefix (s.data.toList.drop p) [60,63]=false:=by
   cases c2:hasPrefix (s.data.toList.drop p) [60,63] with
   |false=>rfl
   |true=>have e1:=pre4 c1;have e2:=pre2 c2;rw[e1] at e2;cases e2
  rw[c1] at h1;rw[c2] at h2;have hf:=zal s ⟨#[45,45,62]⟩ (p+4) w (by omega) (by decide) (by omega);rw[show (⟨#[45,45,62]⟩:ByteArray).data.toList=[45,45,62] from rfl] at hf;have hr:z0c (s.data.toList.drop p)=match z2t [45,45,62] (s.data.toList.drop (p+4)) with|some i=>4+i+3|none=>0:=by unfold z0c;unfold hasPrefix at c1;rw[if_pos c1,List.drop_drop];cases z2t [45,45,62] (s.data.toList.drop (p+4))<;>rfl
  unfold zbo at hf
  cases hff:z2t [45,45,62] (s.data.toList.drop (p+4)) with
  |none=>
   rw[hff] at hf hr;simp only at hf hr;rw[hr];clear c1 c2 hff hr hlen hsz;simp only[Int.natCast_add,Int.cast_ofNat_Int] at hf;go_enter Tryz.func40,Tryz.ntmps40
   go_wp2_with (first
    |(go_at_call 66;(first|go_fit h1|go_fit h2);rintro e w' ⟨rfl,rfl⟩)
    |(go_at_call 38;refine hf.mono ?_;rintro e w' ⟨rfl,rfl⟩))
   go_ret;exact⟨rfl,rfl⟩
  |some i=>
   have hfl:=z6z hff;rw[List.length_drop] at hfl;rw[hff] at hf hr;simp only at hf hr;rw[hr];clear c1 c2 hff hr hlen;simp only[Int.natCast_add,Int.cast_ofNat_Int] at hf;obtain⟨q,hq⟩:∃q:Int,(p:Int)+4+i=q:=⟨_,rfl⟩;have hq0:0≤q:=by omega
   have hq1:q+3 - p=4+i+3:=by omega
   have hq2:q≤2000000:=by omega
   rw[hq] at hf;have HQ:=hide hq1;clear hq hq1 hfl hsz;go_enter Tryz.func40,Tryz.ntmps40
   go_wp2_with (first
    |(go_at_call 66;(first|go_fit h1|go_fit h2);rintro e w' ⟨rfl,rfl⟩)
    |(go_at_call 38;refine hf.mono ?_;rintro e w' ⟨rfl,rfl⟩))
   go_ret;refine⟨?_,rfl⟩;show Ending.returned (.int .i64 (q+3 - p))=_;rw[HQ.out];simp
 |false=>
  rw[c1] at h1
  cases c2:hasPrefix (s.data.toList.drop p) [60,63] with
  |true=>
   have hlen:=z2y c2;rw[List.length_drop] at hlen;simp only[List.length_cons,List.length_nil] at hlen;rw[c2] at h2;have hf:=zal s ⟨#[63,62]⟩ (p+2) w (by omega) (by decide) (by omega);rw[show (⟨#[63,62]⟩:ByteArray).data.toList=[63,62] from rfl] at hf;have hr:z0c (s.data.toList.drop p)=match z2t [63,62] (s.data.toList.drop (p+2)) with|some i=>2+i+2|none=>0:=by unfold z0c;unfold hasPrefix at c1 c2;rw[if_neg (by rw[c1];decide),if_pos c2,List.drop_drop];cases z2t [63,62] (s.data.toList.drop (p+2))<;>rfl
   unfold zbo at hf
   cases hff:z2t [63,62] (s.data.toList.drop (p+2)) with
   |none=>
    rw[hff] at hf hr;simp only at hf hr;rw[hr];clear c1 c2 hff hr hlen hsz;simp only[Int.natCast_add,Int.cast_ofNat_Int] at hf;go_enter Tryz.func40,Tryz.ntmps40
    go_wp2_with (first
     |(go_at_call 66;(first|go_fit h1|go_fit h2);rintro e w' ⟨rfl,rfl⟩)
     |(go_at_call 38;refine hf.mono ?_;rintro e w' ⟨rfl,rfl⟩))
    go_ret;exact⟨rfl,rfl⟩
   |some i=>
    have hfl:=z6z hff;rw[List.length_drop] at hfl;rw[hff] at hf hr;simp only at hf hr;rw[hr];clear c1 c2 hff hr hlen;simp only[Int.natCast_add,Int.cast_ofNat_Int] at hf;obtain⟨q,hq⟩:∃q:Int,(p:Int)+2+i=q:=⟨_,rfl⟩;have hq0:0≤q:=by omega
    have hq1:q+2 - p=2+i+2:=by omega
    have hq2:q≤2000000:=by omega
    rw[hq] at hf;have HQ:=hide hq1;clear hq hq1 hfl hsz;go_enter Tryz.func40,Tryz.ntmps40
    go_wp2_with (first
     |(go_at_call 66;(first|go_fit h1|go_fit h2);rintro e w' ⟨rfl,rfl⟩)
     |(go_at_call 38;refine hf.mono ?_;rintro e w' ⟨rfl,rfl⟩))
    go_ret;refine⟨?_,rfl⟩;show Ending.returned (.int .i64 (q+2 - p))=_;rw[HQ.out];simp
  |false=>
   rw[c2] at h2;have hr:z0c (s.data.toList.drop p)=0:=by unfold z0c;unfold hasPrefix at c1 c2;rw[if_neg (by rw[c1];decide),if_neg (by rw[c2];decide)]
   rw[hr];clear c1 c2 hr hsz;go_enter Tryz.func40,Tryz.ntmps40;go_wp2_with (go_at_call 66;(first|go_fit h1|go_fit h2);rintro e w' ⟨rfl,rfl⟩);go_ret;exact⟨rfl,rfl⟩
end Go.Proofs.YtnlacmnoocigiaaGreatDoor
