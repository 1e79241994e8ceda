/- UTF-8 in plain Lean: the first character of bytes, by decoding (the program's way) and by trying each length (the reference's). -/
import Derived.Lib.DecodeN
import Derived.Lib.RuneBytes
import Derived.Test.YtnlacmnoocigiaaGreatDoorProg
import Derived.RowKit
import Derived.Test.YtnlacmnoocigiaaGreatDoorBaseSt
import Derived.Deep.QuietTactic
import Derived.BigQuiet
import Derived.Deep.RegionLaw
import Derived.Deep.RegionHeld3
import Derived.Deep.DrawnRows
import Derived.Lib.OthersKept
import Derived.WalkSmall
import Derived.Lib.Strings
import Derived.Lib.Bytes
import Derived.Lib.IndexMore
namespace Go.Proofs.YtnlacmnoocigiaaGreatDoor
open Go.Lib
def isC (c:Int):Bool:=decide ((9≤c∧c≤10)∨c=13∨(32≤c∧c≤55295)∨(57344≤c∧c≤65533)∨(65536≤c∧c≤1114111))
def putL (c:Int):List UInt8:=if isC c=true then encodeRune c else []
def byteAt (l:List UInt8)(i:Nat):Nat:=(l[i]?.getD 0).toNat
def decL (l:List UInt8):Nat×Nat:=decodeN l.length (byteAt l 0) (byteAt l 1) (byteAt l 2) (byteAt l 3)
theorem z5z (s:ByteArray)(i k:Nat):(s.get! (i+k)).toNat=byteAt (s.data.toList.drop i) k:=by unfold byteAt;rw[List.getElem?_drop];congr 1;show s.data[i+k]! =_;rw[getElem!_def,Array.getElem?_toList];cases s.data[i+k]? <;>rfl
theorem zbf (s:ByteArray)(i:Nat):Utf8.decode s i=decL (s.data.toList.drop i):=by rw[decode_at];unfold decL;have h0:=z5z s i 0;rw[Nat.add_zero] at h0;rw[h0,z5z,z5z,z5z,List.length_drop];rfl
theorem z4x (x:Int):(x.toNat.toUInt8).toNat=x.toNat % 256:=by simp[Nat.toUInt8]
set_option maxHeartbeats 1000000 in
theorem zod {c:Int}(h:isC c=true)(t:List UInt8):decL (encodeRune c++t)=(c.toNat,(encodeRune c).length):=by
 simp only[isC,decide_eq_true_eq] at h;have hr:(0≤c∧c≤127)∨(128≤c∧c≤2047)∨((2048≤c∧c<55296)∨(57343<c∧c≤65535))∨(65536≤c∧c≤1114111):=by omega
 rcases hr with h1|h1|h1|h1
 · unfold encodeRune decL;rw[encodeRuneZ_one h1.1 h1.2];simp only[List.map_cons,List.map_nil,byteAt,List.cons_append,List.nil_append,List.getElem?_cons_zero,Option.getD_some,z4x,List.length_cons,List.length_nil];unfold decodeN;rw[if_pos (by omega)];simp only[Nat.zero_add,Prod.mk.injEq,and_true];omega
 · unfold encodeRune decL;rw[encodeRuneZ_two h1.1 h1.2];simp only[List.map_cons,List.map_nil,byteAt,List.cons_append,List.nil_append,List.getElem?_cons_zero,List.getElem?_cons_succ,Option.getD_some,z4x,List.length_cons,List.length_nil];unfold decodeN;rw[if_neg (by omega),if_pos (by omega),if_pos (by omega)];refine Prod.ext ?_ rfl;show _=c.toNat;dsimp only;omega
 · unfold encodeRune decL;rw[encodeRuneZ_three h1];simp only[List.map_cons,List.map_nil,byteAt,List.cons_append,List.nil_append,List.getElem?_cons_zero,List.getElem?_cons_succ,Option.getD_some,z4x,List.length_cons,List.length_nil];unfold decodeN;rw[if_neg (by omega),if_neg (by omega),if_pos (by omega),if_pos (by omega)];refine Prod.ext ?_ rfl;show _=c.toNat;dsimp only;omega
 · unfold encodeRune decL;rw[encodeRuneZ_four h1.1 h1.2];simp only[List.map_cons,List.map_nil,byteAt,List.cons_append,List.nil_append,List.getElem?_cons_zero,List.getElem?_cons_succ,Option.getD_some,z4x,List.length_cons,List.length_nil];unfold decodeN;rw[if_neg (by omega),if_neg (by omega),if_neg (by omega),if_pos (by omega),if_pos (by omega)];refine Prod.ext ?_ rfl;show _=c.toNat;dsimp only;omega
def z3i (l:List UInt8):Option (Nat×Nat):=if isC (decL l).1=true∧encodeRune (decL l).1<+:l then some ((decL l).1,(encodeRune (decL l).1).length) else none
theorem z15 {l:List UInt8}{c n:Nat}(h:z3i l=some (c,n)):isC c=true∧n=(encodeRune c).length∧encodeRune c=l.take n∧n≤l.length∧1≤n∧n≤4:=by
 unfold z3i at h;split at h
 · rename_i hc;simp only[Option.some.injEq,Prod.mk.injEq] at h;obtain⟨rfl,rfl⟩:=h;have h1:=encodeRuneZ_length ((decL l).1:Int);have h2:(encodeRune ((decL l).1:Int)).length=(encodeRuneZ ((decL l).1:Int)).length:=by simp[encodeRune]
   exact⟨hc.1,rfl,List.prefix_iff_eq_take.1 hc.2,hc.2.length_le,by omega,by omega⟩
 · cases h
theorem zea {l:List UInt8}{c:Int}(h:isC c=true)(hp:encodeRune c<+:l):z3i l=some (c.toNat,(encodeRune c).length):=by
 obtain⟨t,rfl⟩:=hp;have hd:=zod h t;have h0:0≤c:=by simp only[isC,decide_eq_true_eq] at h;omega
 have hc:((c.toNat:Nat):Int)=c:=by omega
 unfold z3i;rw[hd];simp only[hc];rw[if_pos ⟨h,List.prefix_append _ _⟩]
def z1b (l:List UInt8)(n:Nat):Int:=
 match n with
 |1=>byteAt l 0
 |2=>((byteAt l 0:Int) - 192)*64+byteAt l 1 - 128
 |3=>(((byteAt l 0:Int) - 224)*64+byteAt l 1 - 128)*64+byteAt l 2 - 128
 |4=>((((byteAt l 0:Int) - 240)*64+byteAt l 1 - 128)*64+byteAt l 2 - 128)*64+byteAt l 3 - 128
 |_=>0
def z6i (l:List UInt8)(n:Nat):Bool:=decide (1≤n∧n≤4∧n≤l.length) && isC (z1b l n) && decide (putL (z1b l n)=l.take n)
theorem zd1 {l:List UInt8}{c:Int}(h:isC c=true)(hp:encodeRune c<+:l):z1b l (encodeRune c).length=c:=by
 obtain⟨t,rfl⟩:=hp;simp only[isC,decide_eq_true_eq] at h;have hr:(0≤c∧c≤127)∨(128≤c∧c≤2047)∨((2048≤c∧c<55296)∨(57343<c∧c≤65535))∨(65536≤c∧c≤1114111):=by omega
 rcases hr with h1|h1|h1|h1
 · unfold encodeRune;rw[encodeRuneZ_one h1.1 h1.2];simp only[List.map_cons,List.map_nil,byteAt,z1b,List.cons_append,List.nil_append,List.getElem?_cons_zero,Option.getD_some,z4x,List.length_cons,List.length_nil,Nat.zero_add];omega
 · unfold encodeRune;rw[encodeRuneZ_two h1.1 h1.2];simp only[List.map_cons,List.map_nil,byteAt,z1b,List.cons_append,List.nil_append,List.getElem?_cons_zero,List.getElem?_cons_succ,Option.getD_some,z4x,List.length_cons,List.length_nil,Nat.zero_add,Nat.reduceAdd];omega
 · unfold encodeRune;rw[encodeRuneZ_three h1];simp only[List.map_cons,List.map_nil,byteAt,z1b,List.cons_append,List.nil_append,List.getElem?_cons_zero,List.getElem?_cons_succ,Option.getD_some,z4x,List.length_cons,List.length_nil,Nat.zero_add,Nat.reduceAdd];omega
 · unfold encodeRune;rw[encodeRuneZ_four h1.1 h1.2];simp only[List.map_cons,List.map_nil,byteAt,z1b,List.cons_append,List.nil_append,List.getElem?_cons_zero,List.getElem?_cons_succ,Option.getD_some,z4x,List.length_cons,List.length_nil,Nat.zero_add,Nat.reduceAdd];omega
theorem zbg (l:List UInt8)(n:Nat):z6i l n=true↔z3i l=some ((z1b l n).toNat,n):=by
 constructor
 · intro h;simp only[z6i,Bool.and_eq_true,decide_eq_true_eq] at h;obtain⟨⟨hn,hc⟩,hp⟩:=h;unfold putL at hp;rw[if_pos hc] at hp;have:=zea hc (l:=l) (hp ▸ List.take_prefix n l);rw[this];have hl:(encodeRune (z1b l n)).length=n:=by rw[hp,List.length_take];omega
   rw[hl]
 · intro h;obtain⟨h1,h2,h3,h4,h5,h6⟩:=z15 h;have hp:encodeRune ((z1b l n).toNat:Int)<+:l:=h3 ▸ List.take_prefix n l;have hn:=zd1 h1 hp;rw[←h2] at hn;simp only[z6i,Bool.and_eq_true,decide_eq_true_eq];refine⟨⟨⟨h5,h6,h4⟩,by rw[hn];exact h1⟩, ?_⟩;unfold putL;rw[hn,if_pos h1];exact h3
theorem zoe {l:List UInt8}{c n:Nat}(h:z3i l=some (c,n)):z6i l n=true∧z1b l n=c∧∀m,m≠n→z6i l m=false:=by
 obtain⟨h1,h2,h3,h4,h5,h6⟩:=z15 h;have hp:encodeRune (c:Int)<+:l:=h3 ▸ List.take_prefix n l;have hn:=zd1 h1 hp;rw[←h2] at hn;refine⟨(zbg l n).2 (by rw[h,hn];rfl),hn,fun m hm=> ?_⟩
 cases hr:z6i l m with
 |false=>rfl
 |true=>have:=(zbg l m).1 hr;rw[h] at this;simp only[Option.some.injEq,Prod.mk.injEq] at this;exact absurd this.2.symm hm
end Go.Proofs.YtnlacmnoocigiaaGreatDoor
namespace Go.Proofs.YtnlacmnoocigiaaGreatDoor
open Go.RowKit Go.Lib
attribute [local go_sem ↓] Go.wp_at_zero Go.wp_at_succ
def bL :List (Int×Int):=[(9,10),(13,13),(32,55295),(57344,65533),(65536,1114111)]
def bC :List Int:=[9,10,13,13,32,55295,57344,65533,65536,1114111]
def UB (w:World):Prop:=∀j x,bC[j]? =some x→w.cell? ⟨0,j,none⟩=some (.int .i32 x)
theorem UB.fr {fp:Nat→Prop}{w w':World}(h:UB w)(hf:Fr fp w w')(hn:¬fp 0):UB w':=fun j x hx=>by have:=h j x hx;rw[hf.cell (p:=⟨0,j,none⟩) (World.block_lt_of_cell? w _ this) hn];exact this
theorem UB.same {w w':World}(h:UB w)(hf:Fr (fun _=>False) w w'):UB w':=h.fr hf (fun h=>h)
theorem zxg (c:Int):isC c=bL.any fun p=>decide (p.1≤c∧c≤p.2):=by rw[Bool.eq_iff_iff];simp only[isC,bL,List.any_cons,List.any_nil,Bool.or_false,Bool.or_eq_true,decide_eq_true_eq];omega
theorem zy8 (k:Nat)(hk:k<5):∃lo hi:Int,bL[k]? =some (lo,hi)∧∀W:World,(Instr.index 211 (.agg #[.int .i32 9,.int .i32 10,.int .i32 13,.int .i32 13,.int .i32 32,.int .i32 55295,.int .i32 57344,.int .i32 65533,.int .i32 65536,.int .i32 1114111]) (.int .i64 (k:Int))).run Tryz.prog W=.ok (.agg #[.int .i32 lo,.int .i32 hi]) W:=by
 match k,hk with
 |0,_=>exact⟨_,_,rfl,fun _=>by kernel_rfl⟩
 |1,_=>exact⟨_,_,rfl,fun _=>by kernel_rfl⟩
 |2,_=>exact⟨_,_,rfl,fun _=>by kernel_rfl⟩
 |3,_=>exact⟨_,_,rfl,fun _=>by kernel_rfl⟩
 |4,_=>exact⟨_,_,rfl,fun _=>by kernel_rfl⟩
set_option maxRecDepth 100000 in
set_option maxHeartbeats 1000000 in
theorem zxh (c:Int)(w:World)(hb:UB w):Calls Tryz.prog 133 #[.int .i32 c] w fun e w'=>e=.returned (.bool (isC c))∧Fr (fun _=>False) w w':=by
 have b0:=hb 0 _ rfl;have b1:=hb 1 _ rfl;have b2:=hb 2 _ rfl;have b3:=hb 3 _ rfl;have b4:=hb 4 _ rfl;have b5:=hb 5 _ rfl;have b6:=hb 6 _ rfl;have b7:=hb 7 _ rfl;have b8:=hb 8 _ rfl;have b9:=hb 9 _ rfl;have HC:=hide (zxg c);clear hb;go_enter Tryz.func133,Tryz.ntmps133;go_wp2_with fail;clear b0 b1 b2 b3 b4 b5 b6 b7 b8 b9;go_loopw [6] (fun i wr=>∃k:Nat,k≤5∧i=.int .i64 k∧Hid (Fr (fun _=>False) w wr∧∀p∈bL.take k,¬(p.1≤c∧c≤p.2))) (fun i _=>5 - (intOf i).toNat)
 case atStart=>exact⟨0,Nat.zero_le _,rfl,Fr.refl _ _,by simp⟩
 case round=>
  obtain⟨k,hk,rfl,hh⟩:=hrel;by_cases hlt:k<5
  · obtain⟨lo,hi,hl,hix⟩:=zy8 k hlt;have HL:=hide hl;clear hl;by_cases hin:lo≤c∧c≤hi
    · obtain⟨h1,h2⟩:=hin;go_wp2_with fail;go_ret;refine⟨?_,hh.out.1.alloc _⟩;rw[show isC c=true by rw[HC.out,List.any_eq_true];exact⟨(lo,hi),List.mem_of_getElem? HL.out,by simp[h1,h2]⟩];rfl
    · have hor:c<lo∨(lo≤c∧hi<c):=by omega
      rcases hor with h1|⟨h1,h2⟩
      all_goals
       go_wp2_with fail
       go_roundw
       case rel=>exact⟨k+1,by omega,by go_num,hh.out.1.alloc _,fun p hp=>by
        rw[List.take_add_one,HL.out,Option.toList_some,List.mem_append,List.mem_singleton] at hp;rcases hp with hp|rfl
        · exact hh.out.2 p hp
        · exact hin⟩
       case measure=>simp[intOf];omega
  · obtain rfl:k=5:=by omega
    go_wp2_with fail
    go_ret;refine⟨?_,hh.out.1⟩;rw[show isC c=false by rw[HC.out,List.any_eq_false];intro p hp;have:=hh.out.2 p hp;simpa using this];rfl
theorem zi7 {c:Int}(h:isC c=true):Utf8.encode c=⟨(putL c).toArray⟩:=by
 unfold putL;rw[if_pos h];simp only[isC,decide_eq_true_eq] at h;have hv:Utf8.valid c=true:=by simp[Utf8.valid];omega
 have hn:((c.toNat:Nat):Int)=c:=by omega
 unfold Utf8.encode encodeRune;simp only[hv,if_true];have hr:(0≤c∧c≤127)∨(128≤c∧c≤2047)∨((2048≤c∧c<55296)∨(57343<c∧c≤65535))∨(65536≤c∧c≤1114111):=by omega
 rcases hr with h1|h1|h1|h1
 · rw[if_pos (by omega),encodeRuneZ_one h1.1 h1.2];rfl
 · rw[if_neg (by omega),if_pos (by omega),encodeRuneZ_two h1.1 h1.2];simp only[List.map_cons,List.map_nil,Nat.toUInt8];rw[show (192+c / 64).toNat=192+c.toNat / 64 by omega,show (128+c % 64).toNat=128+c.toNat % 64 by omega]
 · rw[if_neg (by omega),if_neg (by omega),if_pos (by omega),encodeRuneZ_three h1];simp only[List.map_cons,List.map_nil,Nat.toUInt8];rw[show (224+c / 4096).toNat=224+c.toNat / 4096 by omega,show (128+c / 64 % 64).toNat=128+c.toNat / 64 % 64 by omega,show (128+c % 64).toNat=128+c.toNat % 64 by omega]
 · rw[if_neg (by omega),if_neg (by omega),if_neg (by omega),encodeRuneZ_four h1.1 h1.2];simp only[List.map_cons,List.map_nil,Nat.toUInt8];rw[show (240+c / 262144).toNat=240+c.toNat / 262144 by omega,show (128+c / 4096 % 64).toNat=128+c.toNat / 4096 % 64 by omega,show (128+c / 64 % 64).toNat=128+c.toNat / 64 % 64 by omega,show (128+c % 64).toNat=128+c.toNat % 64 by omega]
set_option maxHeartbeats 1000000 in
theorem zi8 (c:Int)(w:World)(hb:UB w):Calls Tryz.prog 100 #[.int .i32 c] w fun e w'=>e=.returned (.string ⟨(putL c).toArray⟩)∧Fr (fun _=>False) w w':=by
 have HB:=hide (zxh c w hb);clear hb
 cases hc:isC c with
 |true=>have HE:=hide (zi7 hc);rw[hc] at HB;clear hc;rw[←HE.out];go_enter Tryz.func100,Tryz.ntmps100;go_wp2_with (go_at_call 133;refine HB.out.mono ?_;rintro e w1 ⟨rfl,f1⟩);go_ret;exact⟨rfl,f1⟩
 |false=>
  have he:putL c=[]:=by simp[putL,hc]
  rw[hc] at HB;rw[he];clear hc he;go_enter Tryz.func100,Tryz.ntmps100;go_wp2_with (go_at_call 133;refine HB.out.mono ?_;rintro e w1 ⟨rfl,f1⟩);go_ret;exact⟨rfl,f1⟩
end Go.Proofs.YtnlacmnoocigiaaGreatDoor
namespace Go.Proofs.YtnlacmnoocigiaaGreatDoor
open Go.RowKit Go.Lib
attribute [local go_sem ↓] Go.wp_at_zero Go.wp_at_succ
theorem Fr.iterAt {fp:Nat→Prop}{w w':World}(h:Fr fp w w'){k:Nat}(hk:w.heap.size≤k)(s:ByteArray)(p:Nat):Fr fp w (w'.iterAt k s p):=⟨h.os,h.tape,h.output,by rw[iterAt_size];exact h.size,fun j hj hn=>(iterAt_other w' k j s p (by omega)).trans (h.block j hj hn)⟩
def runL (most:Int):Nat→List UInt8→Int→Nat→Nat→Int×Nat×Nat
 |0,_,c,n,b=>(c,n,b)
 |f+1,l,c,n,b=>if(n:Int)=most then(c,n,b) else match z3i l with
  |none=>(c,n,b)
  |some (x,k)=>runL most f (l.drop k) x (n+1) (b+k)
theorem z8r :z3i []=none:=by decide
theorem zsj (most:Int)(f:Nat)(c:Int)(n b:Nat):runL most f [] c n b=(c,n,b):=by
 cases f with
 |zero=>rfl
 |succ f=>simp[runL,z8r]
theorem z1x (s:ByteArray)(i j:Nat):(s.extract i j).data.toList=(s.data.toList.drop i).take (j - i):=by simp[ByteArray.extract,ByteArray.copySlice]
theorem zfr {s:ByteArray}{p x k:Nat}(h:z3i (s.data.toList.drop p)=some (x,k)):Utf8.decode s p=(x,k)∧(⟨(putL x).toArray⟩:ByteArray)=s.extract p (p+k)∧(s.extract p (p+k)).size=k∧p+k≤s.size∧1≤k∧k≤4:=by
 obtain⟨h1,h2,h3,h4,h5,h6⟩:=z15 h;rw[List.length_drop] at h4;have h7:s.data.toList.length=s.size:=rfl;have hpre:encodeRune (x:Int)<+:s.data.toList.drop p:=h3 ▸ List.take_prefix _ _;obtain⟨t,ht⟩:=hpre;have hd:=zod h1 t;rw[ht] at hd
 have he:(⟨(putL x).toArray⟩:ByteArray)=s.extract p (p+k):=by
  have:putL x=(s.extract p (p+k)).data.toList:=by rw[z1x,show p+k - p=k by omega,←h3];simp[putL,h1]
  rw[this]
 refine⟨by rw[zbf,hd,←h2];rfl,he, ?_,by omega,h5,h6⟩;rw[←he];show (putL x).toArray.size=k;simp[putL,h1,h2]
theorem z2c {P:ByteArray}(h:1≤P.size):P.toList.isEmpty=false:=by
 rw[toList_data]
 cases hl:P.data.toList with
 |nil=>have:P.data.toList.length=P.size:=rfl;rw[hl] at this;simp at this;omega
 |cons a l=>rfl
theorem z6d {P:ByteArray}(h:1≤P.size):¬P.toList=[]:=fun hc=>by have:=z2c h;rw[hc] at this;cases this
theorem zug {P Q:ByteArray}(h:P≠Q):(P.toList==Q.toList)=false:=by rw[toList_data,toList_data];apply beq_false_of_ne;intro hc;apply h;have:P.data=Q.data:=Array.toList_inj.1 hc;cases P;cases Q;simp_all
set_option maxRecDepth 100000 in
set_option maxHeartbeats 2000000 in
theorem zjx (s:ByteArray)(most:Int)(w:World)(hb:UB w)(hs:s.size≤1000000):Calls Tryz.prog 72 #[.string s,.int .i64 most] w fun e w'=>
 e=.returned (.tuple #[.int .i32 (runL most s.size s.data.toList 0 0 0).1,.int .i64 (runL most s.size s.data.toList 0 0 0).2.1,.int .i64 (runL most s.size s.data.toList 0 0 0).2.2])∧Fr (fun _=>False) w w':=by
 have HB:=hide hb;clear hb;obtain⟨r,hr⟩:∃r,runL most s.size s.data.toList 0 0 0=r:=⟨_,rfl⟩;obtain⟨rc,rn,rb⟩:=r;rw[hr];have HR:=hide hr;clear hr;go_enter Tryz.func72,Tryz.ntmps72;go_wp2_with fail;go_loopw [4,5,6] (fun c n b wr=>∃(x:Int) (m p f:Nat),c=.int .i32 x∧n=.int .i64 m∧b=.int .i64 p∧wr.heap[w.heap.size]? =some (.stringIter s p)∧m≤p∧p≤s.size∧Hid (Fr (fun _=>False) w wr)∧Hid (runL most f (s.data.toList.drop p) x m p=(rc,rn,rb)∧s.size≤p+f)) (fun _ _ _ wr=>s.size - wr.iterPos w.heap.size)
 case atStart=>exact⟨0,0,0,s.size,rfl,rfl,rfl,World.iter_heap w s 0,by omega,by omega,Fr.alloc (Fr.refl _ _) _,by simpa using HR.out,by omega⟩
 case round=>
  obtain⟨x,m,p,f,rfl,rfl,rfl,hit,hmp,hps,hfr,hrun⟩:=hrel;have hpos0:=iterPos_of hit;by_cases hp:p<s.size
  · have hnx:∀ty,(Instr.next (.pointer (some ⟨w.heap.size,0,none⟩)) true ty).run Tryz.prog wr=_:=fun ty=>run_next_any_at wr w.heap.size s p ty hit hp;obtain⟨f,rfl⟩:∃f',f=f'+1:=⟨f - 1,by have:=hrun.out.2;omega⟩;by_cases hm:(m:Int)=most
    · obtain rfl:=hm;have hf2:=hide (hfr.out.iterAt (k:=w.heap.size) (Nat.le_refl _) s (p+(Utf8.decode s p).2));have hres:=hrun.out.1;simp only[runL,if_true,Prod.mk.injEq] at hres;obtain⟨rfl,rfl,rfl⟩:=hres;go_wp2_with fail;go_returns;exact⟨rfl,hf2.out⟩
    · have hmb:((m:Int)==most)=false:=by simpa using hm
      cases hn:z3i (s.data.toList.drop p) with
      |some r=>
       obtain⟨x',k⟩:=r;obtain⟨hd,he,hsz,hpk,hk1,hk4⟩:=zfr hn;have hit2:=iterAt_heap wr w.heap.size s p (p+(Utf8.decode s p).2) hit;have hf2:=hide (hfr.out.iterAt (k:=w.heap.size) (Nat.le_refl _) s (p+(Utf8.decode s p).2));simp only[hd] at hnx hit2 hf2;have HP:=hide (zi8 x' _ (HB.out.same hf2.out));rw[he] at HP;have hrec:=hrun.out.1;simp only[runL,if_neg hm,hn,List.drop_drop] at hrec;have HREC:=hide hrec;have hE:=z2c (P:=s.extract p (p+k)) (by omega);have hE2:=z6d (P:=s.extract p (p+k)) (by omega);clear hd he hn hrec hit;go_wp2_with (go_at_call 100;refine HP.out.mono ?_;rintro e w1 ⟨rfl,f1⟩);go_roundw
       case rel=>exact⟨x',m+1,p+k,f,rfl,by go_num,by go_num,(f1.block w.heap.size (lt_of_block hit2) (fun h=>h)).trans hit2,by omega,by omega,hf2.out.trans f1,HREC.out,by have:=hrun.out.2;omega⟩
       case measure=>
        rw[hpos0,iterPos_of ((f1.block w.heap.size (lt_of_block hit2) (fun h=>h)).trans hit2)];omega
      |none=>
       have hf2:=hide (hfr.out.iterAt (k:=w.heap.size) (Nat.le_refl _) s (p+(Utf8.decode s p).2));have hres:=hrun.out.1;simp only[runL,if_neg hm,hn,Prod.mk.injEq] at hres;obtain⟨rfl,rfl,rfl⟩:=hres;have hd:=zbf s p;obtain⟨x',wd,hxw⟩:∃a b,Utf8.decode s p=(a,b):=⟨_,_,rfl⟩;rw[hxw] at hd;simp only[hxw] at hnx hf2;unfold z3i at hn;rw[←hd] at hn;simp only[ite_eq_right_iff,reduceCtorEq,imp_false,not_and] at hn;have HP:=hide (zi8 x' _ (HB.out.same hf2.out));clear hd hxw hit
       cases hc:isC (x':Int) with
       |false=>
        have he:putL (x':Int)=[]:=by simp[putL,hc]
        rw[he] at HP;clear he hc hn;go_wp2_with (go_at_call 100;refine HP.out.mono ?_;rintro e w1 ⟨rfl,f1⟩);go_returns;exact⟨rfl,hf2.out.trans f1⟩
       |true=>
        have hnp:=hn hc;have hl:=encodeRuneZ_length (x':Int);have he:putL (x':Int)=encodeRune x':=by simp[putL,hc]
        obtain⟨P,hPd⟩:∃P:ByteArray,(⟨(putL (x':Int)).toArray⟩:ByteArray)=P:=⟨_,rfl⟩;have hsz:P.size=(encodeRuneZ (x':Int)).length:=by rw[←hPd,he];show (encodeRune (x':Int)).toArray.size=_;simp[encodeRune]
        have hne:∀b,s.extract p b≠P:=fun b hc2=>by
         apply hnp;rw[←he];have:putL (x':Int)=(s.extract p b).data.toList:=by rw[hc2,←hPd]
         rw[this,z1x];exact List.take_prefix _ _
        rw[hPd] at HP;obtain⟨kk,hkk⟩:∃kk,(encodeRuneZ (x':Int)).length=kk:=⟨_,rfl⟩;rw[hkk] at hl hsz;clear hn hc hnp he hPd hkk;obtain⟨hl1,hl4⟩:=hl;have hE:=z2c (P:=P) (by omega);have hE2:=z6d (P:=P) (by omega);by_cases hfit:p+kk≤s.size
        · have hne2:=zug (hne (p+kk));clear hne;go_wp2_with (go_at_call 100;refine HP.out.mono ?_;rintro e w1 ⟨rfl,f1⟩);go_returns;exact⟨rfl,hf2.out.trans f1⟩
        · clear hne;go_wp2_with (go_at_call 100;refine HP.out.mono ?_;rintro e w1 ⟨rfl,f1⟩);go_returns;exact⟨rfl,hf2.out.trans f1⟩
  · obtain rfl:p=s.size:=by omega
    have hnx:∀ty,(Instr.next (.pointer (some ⟨w.heap.size,0,none⟩)) true ty).run Tryz.prog wr=_:=fun ty=>run_next_end_at wr w.heap.size s s.size ty hit hp;have hres:=hrun.out.1;rw[List.drop_of_length_le (show s.data.toList.length≤s.size from Nat.le_refl _),zsj] at hres;simp only[Prod.mk.injEq] at hres;obtain⟨rfl,rfl,rfl⟩:=hres;go_wp2_with fail;go_returns;exact⟨rfl,hfr.out⟩
end Go.Proofs.YtnlacmnoocigiaaGreatDoor
namespace Go.Proofs.YtnlacmnoocigiaaGreatDoor
open Go.RowKit Go.Lib
attribute [local go_sem ↓] Go.wp_at_zero Go.wp_at_succ
def z0u (l:List UInt8):Int×Nat×Int:=
 match z3i l with
 |some (x,k)=>(x,k,0)
 |none=>if l=[] then(0,0,0) else(0,0,10)
theorem run1 (s:ByteArray):runL 1 s.size s.data.toList 0 0 0=match z3i s.data.toList with|some (x,k)=>((x:Int),1,k)|none=>(0,0,0):=by
 have hl:s.data.toList.length=s.size:=rfl
 cases hsz:s.size with
 |zero=>have:s.data.toList=[]:=List.eq_nil_of_length_eq_zero (by omega);rw[this,z8r];rfl
 |succ f=>
  cases hn:z3i s.data.toList with
  |none=>simp[runL,hn]
  |some r=>
   obtain⟨x,k⟩:=r;simp only[runL,hn];rw[if_neg (by decide)]
   cases f with
   |zero=>simp[runL]
   |succ f=>simp[runL]
set_option maxHeartbeats 1000000 in
theorem zsk (s:ByteArray)(w:World)(hb:UB w)(hs:s.size≤1000000):Calls Tryz.prog 109 #[.string s] w fun e w'=>
 e=.returned (.tuple #[.int .i32 (z0u s.data.toList).1,.int .i64 (z0u s.data.toList).2.1,.int .i64 (z0u s.data.toList).2.2])∧Fr (fun _=>False) w w':=by
 have HE:=hide (zjx s 1 w hb hs);have hl:s.data.toList.length=s.size:=rfl;rw[run1] at HE;unfold z0u;clear hb
 cases hn:z3i s.data.toList with
 |some r=>
  obtain⟨x,k⟩:=r;obtain⟨-, -, -, -,hk, -⟩:=z15 hn;simp only[hn] at HE;clear hn;have hkb:((k:Int)==0)=false:=by simp;omega
  go_enter Tryz.func109,Tryz.ntmps109;go_wp2_with (go_at_call 72;refine HE.out.mono ?_;rintro e w1 ⟨rfl,f1⟩);go_returns;exact⟨rfl,f1⟩
 |none=>
  simp only[hn] at HE;clear hn;by_cases h0:s.data.toList=[]
  · rw[if_pos h0];have hE:s.toList.isEmpty=true:=by rw[toList_data,h0];rfl
    have hE2:s.toList=[]:=by rw[toList_data,h0]
    clear h0;go_enter Tryz.func109,Tryz.ntmps109;go_wp2_with (go_at_call 72;refine HE.out.mono ?_;rintro e w1 ⟨rfl,f1⟩);go_returns;exact⟨rfl,f1⟩
  · rw[if_neg h0]
    have h1:1≤s.size:=by
     cases hs0:s.size with
     |zero=>exact absurd (List.eq_nil_of_length_eq_zero (by omega)) h0
     |succ k=>omega
    have hE:=z2c h1;have hE2:=z6d h1;clear h0;go_enter Tryz.func109,Tryz.ntmps109;go_wp2_with (go_at_call 72;refine HE.out.mono ?_;rintro e w1 ⟨rfl,f1⟩);go_returns;exact⟨rfl,f1⟩
def z60 :Nat→List UInt8→Nat
 |0,_=>0
 |f+1,l=>match z3i l with
  |none=>0
  |some (_,k)=>k+z60 f (l.drop k)
theorem zsl (f:Nat)(l:List UInt8):z60 f l≤l.length:=by
 induction f generalizing l with
 |zero=>simp[z60]
 |succ f ih=>
  unfold z60
  cases hn:z3i l with
  |none=>simp
  |some r=>obtain⟨x,k⟩:=r;have:=z15 hn;have h2:=ih (l.drop k);rw[List.length_drop] at h2;simp only;omega
theorem zsm (most:Int)(f:Nat)(l:List UInt8)(c:Int)(n b:Nat)(hm:(n+l.length:Nat)≤most)(hf:l.length≤f):(runL most f l c n b).2.2=b+z60 f l:=by
 induction f generalizing l c n b with
 |zero=>rfl
 |succ f ih=>
  unfold runL z60
  cases hn:z3i l with
  |none=>by_cases h:(n:Int)=most<;>simp[h]
  |some r=>obtain⟨x,k⟩:=r;have:=z15 hn;rw[if_neg (by omega)];simp only;rw[ih (l.drop k) x (n+1) (b+k) (by rw[List.length_drop];omega) (by rw[List.length_drop];omega)];omega
def z0h (l:List UInt8):Nat×Int:=if z60 l.length l<l.length then(z60 l.length l,10) else(0,0)
set_option maxHeartbeats 1000000 in
theorem zbh (s:ByteArray)(w:World)(hb:UB w)(hs:s.size≤1000000):Calls Tryz.prog 45 #[.string s] w fun e w'=>
 e=.returned (.tuple #[.int .i64 (z0h s.data.toList).1,.int .i64 (z0h s.data.toList).2])∧Fr (fun _=>False) w w':=by
 have HE:=hide (zjx s s.size w hb hs);have hl:s.data.toList.length=s.size:=rfl;have hr:=zsm s.size s.size s.data.toList 0 0 0 (by omega) (by omega);unfold z0h;rw[hl];rw[hr] at HE;rw[Nat.zero_add] at HE;clear hb hr;generalize z60 s.size s.data.toList=g at*;generalize (runL s.size s.size s.data.toList 0 0 0).1=a at*;generalize (runL s.size s.size s.data.toList 0 0 0).2.1=b at*;by_cases hg:g<s.size
 · rw[if_pos hg];go_enter Tryz.func45,Tryz.ntmps45;go_wp2_with (go_at_call 72;refine HE.out.mono ?_;rintro e w1 ⟨rfl,f1⟩);go_returns;exact⟨rfl,f1⟩
 · rw[if_neg hg];go_enter Tryz.func45,Tryz.ntmps45;go_wp2_with (go_at_call 72;refine HE.out.mono ?_;rintro e w1 ⟨rfl,f1⟩);go_returns;exact⟨rfl,f1⟩
end Go.Proofs.YtnlacmnoocigiaaGreatDoor
namespace Go.Proofs.YtnlacmnoocigiaaGreatDoor
open Go.Lib
def digV (b:UInt8):Int:=if 48≤b.toNat∧b.toNat≤57 then(b.toNat:Int) - 48 else if 97≤b.toNat∧b.toNat≤102 then(b.toNat:Int) - 87 else if 65≤b.toNat∧b.toNat≤70 then(b.toNat:Int) - 55 else -1
def digB (base:Int)(b:UInt8):Bool:=decide (0≤digV b∧digV b<base)
def valL (base:Int):List UInt8→Int→Int
 |[],n=>n
 |b::t,n=>valL base t (n*base+digV b)
def numP (base:Int)(most:Nat)(l:List UInt8):List UInt8:=if 1≤l.length∧l.length≤most∧l.all (digB base)=true then putL (valL base l 0) else []
def z1z (base:Int):Nat→List UInt8→Nat
 |0,_=>0
 |_+1,[]=>0
 |m+1,b::t=>if digB base b=true then z1z base m t+1 else 0
def numR (base:Int)(most:Nat)(l:List UInt8):List UInt8×Nat:=if z1z base most l=0∨l[z1z base most l]? ≠some 59 then([],0) else(putL (valL base (l.take (z1z base most l)) 0),z1z base most l)
theorem zjy (base:Int)(m:Nat)(l:List UInt8):z1z base m l≤m∧z1z base m l≤l.length:=by
 induction m generalizing l with
 |zero=>simp[z1z]
 |succ m ih=>
  cases l with
  |nil=>simp[z1z]
  |cons b t=>
   have:=ih t;unfold z1z;split
   · simp only[List.length_cons];omega
   · simp
theorem zof (base:Int)(m:Nat)(l:List UInt8):(l.take (z1z base m l)).all (digB base)=true:=by
 induction m generalizing l with
 |zero=>simp[z1z]
 |succ m ih=>
  cases l with
  |nil=>simp[z1z]
  |cons b t=>
   unfold z1z;split
   · rename_i h;rw[List.take_succ_cons,List.all_cons,h,ih t];rfl
   · simp
theorem zll {base:Int}{m:Nat}{a:List UInt8}{b:UInt8}{r:List UInt8}(ha:a.all (digB base)=true)(hb:digB base b=false)(hm:a.length≤m):z1z base m (a++b::r)=a.length:=by
 induction a generalizing m with
 |nil=>
  cases m with
  |zero=>rfl
  |succ m=>simp[z1z,hb]
 |cons x t ih=>
  cases m with
  |zero=>simp at hm
  |succ m=>rw[List.all_cons,Bool.and_eq_true] at ha;simp only[List.length_cons] at hm;rw[List.cons_append];unfold z1z;rw[if_pos ha.1,ih ha.2 (by omega)];rfl
theorem zjz (base:Int):digB base 59=false:=by
 have:digV 59= -1:=by decide
 simp[digB,this]
theorem z28 {x:UInt8}:∀{l:List UInt8},x∈l→∃a r,l=a++x::r∧x ∉ a
 |[],h=>absurd h (by simp)
 |b::l,h=>by
  by_cases hb:b=x
  · exact⟨[],l,by rw[hb];rfl,by simp⟩
  · obtain⟨a,r,h1,h2⟩:=z28 (l:=l) (by simpa [Ne.symm hb] using h);exact⟨b::a,r,by rw[h1];rfl,by simp[Ne.symm hb,h2]⟩
theorem z6s {x:UInt8}:∀{a b r s:List UInt8},a++x::r=b++x::s→x ∉ a→x ∉ b→a=b∧r=s
 |[],[],r,s,h,_,_=>by simpa using h
 |[],y::b,r,s,h,_,hb=>by simp at h;exact absurd h.1 (fun e=>hb (by simp[e]))
 |y::a,[],r,s,h,ha,_=>by simp at h;exact absurd h.1.symm (fun e=>ha (by simp[e]))
 |y::a,z::b,r,s,h,ha,hb=>by simp only[List.cons_append,List.cons.injEq] at h;have:=z6s h.2 (fun e=>ha (by simp[e])) (fun e=>hb (by simp[e]));exact⟨by rw[h.1,this.1],this.2⟩
theorem zeb {l:List UInt8}{k:Nat}{x:UInt8}(h:l[k]? =some x):l=l.take k++x::l.drop (k+1):=by
 obtain⟨h1,h2⟩:=List.getElem?_eq_some_iff.1 h
 conv=>lhs;rw[←List.take_append_drop k l]
 rw[List.drop_eq_getElem_cons h1,h2]
theorem zog {base:Int}{most:Nat}{a r:List UInt8}(ha:(59:UInt8) ∉ a):numR base most (a++59::r)=if 1≤a.length∧a.length≤most∧a.all (digB base)=true then(putL (valL base a 0),a.length) else([],0):=by
 unfold numR;split
 · rename_i h;rw[if_neg];rintro⟨h1,h2,h3⟩;have hk:=zll (r:=r) h3 (zjz base) h2;rw[hk] at h;rcases h with h|h
   · omega
   · apply h;rw[List.getElem?_append_right (Nat.le_refl _)];simp
 · rename_i h;rw[not_or] at h;obtain⟨h1,h2⟩:=h;have h2:(a++59::r)[z1z base most (a++59::r)]? =some 59:=by simpa using h2
   have hle:=zjy base most (a++59::r);have hall:=zof base most (a++59::r);have hlt:=(List.getElem?_eq_some_iff.1 h2).1;have hs:a++59::r=(a++59::r).take (z1z base most (a++59::r))++59::(a++59::r).drop (z1z base most (a++59::r)+1):=zeb h2;have hu:=z6s hs ha (fun hm=>by have:=List.all_eq_true.1 hall _ hm;rw[zjz] at this;cases this);obtain⟨hu1, -⟩:=hu;have hlen:=congrArg List.length hu1;rw[List.length_take] at hlen;rw[←hu1] at hall⊢;have hk:z1z base most (a++59::r)=a.length:=by omega
   rw[if_pos ⟨by omega,by omega,hall⟩,hk]
theorem zoh {base:Int}{most:Nat}{l:List UInt8}(h:(59:UInt8) ∉ l):numR base most l=([],0):=by unfold numR;rw[if_pos];right;intro hc;exact h (List.mem_of_getElem? hc)
def nameL :List (List UInt8×List UInt8):=[([97,109,112],[38]),([108,116],[60]),([103,116],[62]),([113,117,111,116],[34]),([97,112,111,115],[39])]
def zad (n:List UInt8):List UInt8:=match nameL.find? (fun p=>p.1==n) with
 |some p=>p.2
 |none=>[]
def z3c (name:List UInt8):List UInt8:=if hasPrefix name [35,120]=true then numP 16 6 (name.drop 2) else if hasPrefix name [35]=true then numP 10 7 (name.drop 1) else zad name
def refP (l:List UInt8):List UInt8×Nat:=if hasPrefix l [38]=true∧(cut l [59]).2.2=true∧z3c ((cut l [59]).1.drop 1)≠[] then(z3c ((cut l [59]).1.drop 1),(cut l [59]).1.length+1) else([],0)
def z7l (l:List UInt8):List UInt8×Nat×Nat:=if hasPrefix l [38,35,120]=true then((numR 16 6 (l.drop 3)).1,(numR 16 6 (l.drop 3)).2,3) else if hasPrefix l [38,35]=true then((numR 10 7 (l.drop 2)).1,(numR 10 7 (l.drop 2)).2,2) else([],0,0)
def refR (l:List UInt8):List UInt8×Nat:=
 match nameL.find? (fun p=>hasPrefix l (38::(p.1++[59]))) with
 |some p=>(p.2,p.1.length+2)
 |none=>if(z7l l).1=[] then([],0) else((z7l l).1,(z7l l).2.2+(z7l l).2.1+1)
theorem zd2 (x:UInt8):∀(a r:List UInt8),x ∉ a→index (a++x::r) [x]=a.length
 |[],r,_=>by simp[index]
 |b::a,r,h=>by
  have hb:b≠x:=fun e=>h (by simp[e]);have ih:=zd2 x a r (fun e=>h (by simp[e]));rw[List.cons_append];unfold index;rw[ih];have h1:([x].isPrefixOf (b::(a++x::r)))=false:=by simp[List.isPrefixOf,Ne.symm hb]
  have h2:((a.length:Int)== -1)=false:=by rw[beq_eq_false_iff_ne];omega
  simp[h1,h2]
theorem zk0 (x:UInt8):∀(l:List UInt8),x ∉ l→index l [x]= -1
 |[],_=>rfl
 |b::l,h=>by
  have hb:b≠x:=fun e=>h (by simp[e]);have ih:=zk0 x l (fun e=>h (by simp[e]));unfold index;rw[ih];have h1:([x].isPrefixOf (b::l))=false:=by simp[List.isPrefixOf,Ne.symm hb]
  simp[h1]
theorem zi9 {x:UInt8}{a r:List UInt8}(h:x ∉ a):cut (a++x::r) [x]=(a,r,true):=by unfold cut;rw[zd2 x a r h,if_pos (by omega),Int.toNat_natCast];simp
theorem zk1 {x:UInt8}{l:List UInt8}(h:x ∉ l):cut l [x]=(l,[],false):=by unfold cut;rw[zk0 x l h,if_neg (by decide)]
theorem zsn {n p r:List UInt8}(hn:(59:UInt8) ∉ n)(hp:(59:UInt8) ∉ p):hasPrefix (n++59::r) (p++[59])=(p==n):=by
 rw[Bool.eq_iff_iff,hasPrefix,List.isPrefixOf_iff_prefix,beq_iff_eq];constructor
 · rintro⟨t,ht⟩;rw[List.append_assoc,List.singleton_append] at ht;exact(z6s ht hp hn).1
 · rintro rfl;exact⟨r,by simp⟩
theorem zk2 {n p r:List UInt8}(hp:(59:UInt8) ∉ p):hasPrefix (n++59::r) p=hasPrefix n p:=by
 rw[Bool.eq_iff_iff,hasPrefix,hasPrefix,List.isPrefixOf_iff_prefix,List.isPrefixOf_iff_prefix];constructor
 · intro h;rcases Nat.le_total p.length n.length with hl|hl
   · exact List.prefix_of_prefix_length_le h (List.prefix_append _ _) hl
   · rcases Nat.lt_or_ge n.length p.length with hlt|hge
     · exfalso;obtain⟨t,ht⟩:=h;have:(p++t)[n.length]? =some 59:=by rw[ht,List.getElem?_append_right (Nat.le_refl _)];simp
       rw[List.getElem?_append_left hlt] at this;exact hp (List.mem_of_getElem? this)
     · exact List.prefix_of_prefix_length_le h (List.prefix_append _ _) hge
 · intro h;exact h.trans (List.prefix_append _ _)
theorem zlm {n r:List UInt8}(hn:(59:UInt8) ∉ n):nameL.find? (fun p=>hasPrefix (38::(n++59::r)) (38::(p.1++[59])))=nameL.find? (fun p=>p.1==n):=by
 have h1:∀p:List UInt8,(59:UInt8) ∉ p→hasPrefix (38::(n++59::r)) (38::(p++[59]))=(p==n):=fun p hp=>by rw[←zsn (r:=r) hn hp];simp[hasPrefix,List.isPrefixOf]
 unfold nameL;simp only[List.find?_cons];rw[h1 _ (by decide),h1 _ (by decide),h1 _ (by decide),h1 _ (by decide),h1 _ (by decide)];simp only[List.find?_nil]
theorem zia {n r:List UInt8}(hn:(59:UInt8) ∉ n):refP (38::(n++59::r))=if z3c n=[] then([],0) else(z3c n,n.length+2):=by
 unfold refP;have hc:cut (38::(n++59::r)) [59]=(38::n,r,true):=by have:=zi9 (x:=59) (a:=38::n) (r:=r) (by simp[hn]);simpa using this
 rw[hc];have hp:hasPrefix (38::(n++59::r)) [38]=true:=by simp[hasPrefix,List.isPrefixOf]
 simp only[hp,List.drop_succ_cons,List.drop_zero,List.length_cons,true_and];by_cases h:z3c n=[]
 · simp[h]
 · simp[h]
theorem z6t {b:UInt8}{l:List UInt8}(h:b≠38):refP (b::l)=([],0):=by
 unfold refP;have hp:hasPrefix (b::l) [38]=false:=by simp[hasPrefix,List.isPrefixOf,Ne.symm h]
 simp[hp]
theorem zoi {l:List UInt8}(h:(59:UInt8) ∉ l):refP l=([],0):=by unfold refP;rw[zk1 h];simp
theorem zk3 {base:Int}{most:Nat}{a:List UInt8}:numP base most a=(if 1≤a.length∧a.length≤most∧a.all (digB base)=true then(putL (valL base a 0),a.length) else([],0)).1:=by unfold numP;split<;>rfl
theorem zvx (l:List UInt8):refR l=refP l:=by
 by_cases hsemi:(59:UInt8)∈l
 · obtain⟨a,r,rfl,ha⟩:=z28 hsemi
   cases a with
   |nil=>rw[List.nil_append,z6t (by decide)];rfl
   |cons b n=>
    by_cases hb:b=38
    · subst hb;have hn:(59:UInt8) ∉ n:=fun e=>ha (by simp[e]);rw[List.cons_append,zia hn];unfold refR;rw[zlm hn]
      cases hf:nameL.find? (fun p=>p.1==n) with
      |some p=>
       have hv:zad n=p.2:=by unfold zad;rw[hf]
       have hmem:=List.mem_of_find?_eq_some hf;have hpn:p.1=n:=by simpa using List.find?_some hf
       have h35:hasPrefix n [35,120]=false∧hasPrefix n [35]=false∧p.2≠[]:=by subst hpn;simp only[nameL,List.mem_cons,List.not_mem_nil,or_false] at hmem;rcases hmem with rfl|rfl|rfl|rfl|rfl<;>decide
       have hs:z3c n=p.2:=by unfold z3c;rw[h35.1,h35.2.1,hv];simp
       simp only[hs,if_neg h35.2.2,hpn]
      |none=>
       have hv:zad n=[]:=by unfold zad;rw[hf]
       have e1:hasPrefix (38::(n++59::r)) [38,35,120]=hasPrefix n [35,120]:=by rw[←zk2 (n:=n) (p:=[35,120]) (r:=r) (by decide)];simp[hasPrefix,List.isPrefixOf]
       have e2:hasPrefix (38::(n++59::r)) [38,35]=hasPrefix n [35]:=by rw[←zk2 (n:=n) (p:=[35]) (r:=r) (by decide)];simp[hasPrefix,List.isPrefixOf]
       simp only[z7l,z3c,e1,e2];by_cases hx:hasPrefix n [35,120]=true
       · obtain⟨t,rfl⟩:=List.isPrefixOf_iff_prefix.1 hx;have ht:(59:UInt8) ∉ t:=fun e=>hn (by simp[e]);simp only[hx,if_true];have hd:List.drop 3 (38::([35,120]++t++59::r))=t++59::r:=by simp
         rw[hd,zog ht];have hd2:List.drop 2 ([35,120]++t)=t:=by simp
         rw[hd2,zk3];split
         · simp only[List.length_append,List.length_cons,List.length_nil];split
           · rfl
           · simp only[Prod.mk.injEq,true_and];omega
         · rfl
       · have hx':hasPrefix n [35,120]=false:=by simpa using hx
         simp only[hx',Bool.false_eq_true,if_false];by_cases hd:hasPrefix n [35]=true
         · obtain⟨t,rfl⟩:=List.isPrefixOf_iff_prefix.1 hd;have ht:(59:UInt8) ∉ t:=fun e=>hn (by simp[e]);simp only[hd,if_true];have hd1:List.drop 2 (38::([35]++t++59::r))=t++59::r:=by simp
           rw[hd1,zog ht];have hd2:List.drop 1 ([35]++t)=t:=by simp
           rw[hd2,zk3];split
           · simp only[List.length_append,List.length_cons,List.length_nil];split
             · rfl
             · simp only[Prod.mk.injEq,true_and];omega
           · rfl
         · have hd':hasPrefix n [35]=false:=by simpa using hd
           simp only[hd',hv,Bool.false_eq_true,if_false,if_true]
    · rw[List.cons_append,z6t hb];have hno:∀p:List UInt8,hasPrefix (b::(n++59::r)) (38::p)=false:=fun p=>by simp[hasPrefix,List.isPrefixOf,Ne.symm hb]
      unfold refR nameL z7l;simp only[List.find?_cons,hno,List.find?_nil,Bool.false_eq_true,if_false,if_true]
 · rw[zoi hsemi];have hno:∀p:List UInt8,hasPrefix l (38::(p++[59]))=false:=fun p=>by rw[Bool.eq_false_iff];intro h;obtain⟨t,ht⟩:=List.isPrefixOf_iff_prefix.1 h;exact hsemi (by rw[←ht];simp)
   unfold refR nameL z7l;simp only[List.find?_cons,hno,List.find?_nil];rw[zoh (fun h=>hsemi (List.mem_of_mem_drop h)),zoh (fun h=>hsemi (List.mem_of_mem_drop h))];split
   · rfl
   · split<;>rfl
end Go.Proofs.YtnlacmnoocigiaaGreatDoor
namespace Go.Proofs.YtnlacmnoocigiaaGreatDoor
open Go.Lib
inductive IsU :List UInt8→Prop
 |nil:IsU []
 |cons {c:Int} {l:List UInt8}:isC c=true→IsU l→IsU (encodeRune c++l)
theorem zvy (c:Int):1≤(encodeRune c).length:=by have:=encodeRuneZ_length c;unfold encodeRune;rw[List.length_map];omega
theorem IsU.append {a b:List UInt8}(ha:IsU a)(hb:IsU b):IsU (a++b):=by
 induction ha with
 |nil=>exact hb
 |cons h _ ih=>rw[List.append_assoc];exact .cons h ih
theorem IsU.put (c:Int):IsU (putL c):=by
 unfold putL;split
 · rename_i h;have:=IsU.cons h .nil
   rwa [List.append_nil] at this
 · exact .nil
theorem zoj {c:Int}(h:isC c=true)(l:List UInt8):z3i (encodeRune c++l)=some (c.toNat,(encodeRune c).length):=zea h (List.prefix_append _ _)
theorem IsU.of_next {l:List UInt8}{x k:Nat}(h:z3i l=some (x,k)):isC x=true∧l=encodeRune x++l.drop k∧(encodeRune x).length=k:=by obtain⟨h1,h2,h3,h4, -, -⟩:=z15 h;exact⟨h1,by rw[h3,List.take_append_drop],h2.symm⟩
theorem zk4 :∀(f:Nat) (l:List UInt8),z60 f l=l.length→IsU l
 |0,l,h=>by have:l=[]:=List.eq_nil_of_length_eq_zero (by simpa [z60] using h.symm);rw[this];exact .nil
 |f+1,l,h=>by
  unfold z60 at h
  cases hn:z3i l with
  |none=>rw[hn] at h;have:l=[]:=List.eq_nil_of_length_eq_zero (by simpa using h.symm);rw[this];exact .nil
  |some r=>obtain⟨x,k⟩:=r;rw[hn] at h;simp only at h;obtain⟨h1,h2,h3⟩:=IsU.of_next hn;have hk:=(z15 hn).2.2.2.1;rw[h2];exact .cons h1 (zk4 f (l.drop k) (by rw[List.length_drop];omega))
theorem zso {l:List UInt8}(h:IsU l):∀f,l.length≤f→z60 f l=l.length:=by
 induction h with
 |nil=>
  intro f _
  cases f with
  |zero=>rfl
  |succ f=>simp[z60,z8r]
 | @cons c l hc _ ih=>
   intro f hf;have hp:=zvy c;rw[List.length_append] at hf
   cases f with
   |zero=>omega
   |succ f=>unfold z60;rw[zoj hc];simp only[List.drop_left];rw[ih f (by omega),List.length_append]
theorem z9e (l:List UInt8):(z0h l).2=0↔IsU l:=by
 unfold z0h;constructor
 · intro h;split at h
   · cases h
   · rename_i hh;exact zk4 l.length l (Nat.le_antisymm (zsl _ _) (by omega))
 · intro h;rw[if_neg];rw[zso h l.length (Nat.le_refl _)];omega
theorem zln {l:List UInt8}(h:(z0h l).2≠0):(z0h l).2=10:=by
 unfold z0h at h⊢;split at h
 · rename_i hh;rw[if_pos hh]
 · exact absurd rfl h
def z12 (l:List UInt8):List UInt8×Nat×Int:=if(refP l).2≠0 then((refP l).1,(refP l).2,0) else if l.head? =some 38 then([],0,30) else(l.take (z0u l).2.1,(z0u l).2.1,(z0u l).2.2)
def decode :Nat→List UInt8→List UInt8→Nat→List UInt8×Nat×Int
 |0,_,acc,_=>(acc,0,0)
 |f+1,l,acc,at_=>if l=[] then(acc,0,0) else if(z12 l).2.2≠0 then([],at_,(z12 l).2.2) else decode f (l.drop (z12 l).2.1) (acc++(z12 l).1) (at_+(z12 l).2.1)
def z04 (l:List UInt8):List UInt8×Nat×Int:=decode l.length l [] 0
theorem zok (n:List UInt8):IsU (zad n):=by
 unfold zad;split
 · rename_i p hp;have:=List.mem_of_find?_eq_some hp;simp only[nameL,List.mem_cons,List.not_mem_nil,or_false] at this;rcases this with rfl|rfl|rfl|rfl|rfl
   · exact IsU.put 38
   · exact IsU.put 60
   · exact IsU.put 62
   · exact IsU.put 34
   · exact IsU.put 39
 · exact .nil
theorem zol (n:List UInt8):IsU (z3c n):=by
 unfold z3c numP;split
 · split
   · exact IsU.put _
   · exact .nil
 · split
   · split
     · exact IsU.put _
     · exact .nil
   · exact zok n
theorem z5l (l:List UInt8):refP l=([],0)∨∃n r,l=38::(n++59::r)∧(59:UInt8) ∉ n∧z3c n≠[]∧refP l=(z3c n,n.length+2):=by
 by_cases hsemi:(59:UInt8)∈l
 · obtain⟨a,r,rfl,ha⟩:=z28 hsemi
   cases a with
   |nil=>exact .inl (z6t (by decide))
   |cons b n=>
    by_cases hb:b=38
    · subst hb;have hn:(59:UInt8) ∉ n:=fun e=>ha (by simp[e]);have h:=zia (r:=r) hn;rw[List.cons_append];by_cases hs:z3c n=[]
      · rw[if_pos hs] at h;exact .inl h
      · rw[if_neg hs] at h;exact .inr ⟨n,r,rfl,hn,hs,h⟩
    · exact .inl (z6t hb)
 · exact .inl (zoi hsemi)
theorem zsp {l:List UInt8}(h:(refP l).2≠0)(m:List UInt8):refP (l++m)=refP l:=by
 rcases z5l l with h1|⟨n,r,rfl,h2,h3,h4⟩
 · rw[h1] at h;exact absurd rfl h
 · rw[h4];have:=zia (n:=n) (r:=r++m) h2;rw[if_neg h3] at this;rw[←this];simp
theorem zom {l:List UInt8}{k:Nat}(h:(z0u l).2.2=0)(h0:l≠[])(hk:(z0u l).2.1=k)(m:List UInt8):z0u (l++m)=z0u l∧1≤k∧k≤l.length:=by
 unfold z0u at h hk⊢
 cases hn:z3i l with
 |none=>rw[hn] at h;simp[h0] at h
 |some r=>obtain⟨x,j⟩:=r;rw[hn] at hk;simp only at hk;subst hk;obtain⟨h1,h2,h3,h4,h5,h6⟩:=z15 hn;have hp:encodeRune (x:Int)<+:l++m:=(h3 ▸ List.take_prefix _ _).trans (List.prefix_append _ _);rw[zea h1 hp,←h2];exact⟨rfl,h5,h4⟩
theorem z1u {l:List UInt8}(h0:l≠[])(h:(z12 l).2.2=0)(m:List UInt8):z12 (l++m)=z12 l∧1≤(z12 l).2.1∧(z12 l).2.1≤l.length∧IsU (z12 l).1:=by
 unfold z12 at h⊢;by_cases hr:(refP l).2≠0
 · rw[if_pos hr] at h⊢;rw[zsp hr,if_pos hr];refine⟨rfl,(by show 1≤(refP l).2;omega), ?_⟩;rcases z5l l with h1|⟨n,r,rfl,h2,h3,h4⟩
   · rw[h1] at hr;exact absurd rfl hr
   · rw[h4];exact⟨by simp only[List.length_cons,List.length_append];omega,zol n⟩
 · rw[if_neg hr] at h⊢;by_cases hh:l.head? =some 38
   · rw[if_pos hh] at h;cases h
   · rw[if_neg hh] at h⊢;obtain⟨hn,h1,h2⟩:=zom h h0 rfl m
     have hne:refP (l++m)=([],0):=by
      cases l with
      |nil=>exact absurd rfl h0
      |cons b l=>exact z6t (fun e=>hh (by simp[e]))
     have hh2:(l++m).head? =l.head? :=by
      cases l with
      |nil=>exact absurd rfl h0
      |cons b l=>rfl
     rw[hne,if_neg (by simp),hh2,if_neg hh,hn,List.take_append_of_le_length h2];refine⟨rfl,h1,h2, ?_⟩;show IsU (l.take (z0u l).2.1);unfold z0u at h⊢
     cases hx:z3i l with
     |none=>rw[hx] at h;simp[h0] at h
     |some r=>
      obtain⟨x,j⟩:=r;obtain⟨g1,g2,g3, -⟩:=z15 hx;simp only;rw[←g3];have:=IsU.cons g1 .nil
      rwa [List.append_nil] at this
theorem z82 :∀(f:Nat) (l acc:List UInt8) (a:Nat),l.length≤f→decode f l acc a=decode l.length l acc a
 |0,l,acc,a,h=>by have:l=[]:=List.eq_nil_of_length_eq_zero (by omega);subst this;rfl
 |f+1,[],acc,a,h=>rfl
 |f+1,b::t,acc,a,h=>by
  rw[List.length_cons];unfold decode;rw[if_neg (List.cons_ne_nil b t),if_neg (List.cons_ne_nil b t)];by_cases he:(z12 (b::t)).2.2≠0
  · rw[if_pos he,if_pos he]
  · rw[if_neg he,if_neg he];have he:(z12 (b::t)).2.2=0:=by omega
    obtain⟨-,h1,h2, -⟩:=z1u (by simp) he [];simp only[List.length_cons] at h h2;rw[z82 f _ _ _ (by rw[List.length_drop,List.length_cons];omega)];have:=z82 t.length ((b::t).drop (z12 (b::t)).2.1) (acc++(z12 (b::t)).1) (a+(z12 (b::t)).2.1) (by rw[List.length_drop,List.length_cons];omega);rw[this]
theorem zbi {l:List UInt8}(h0:l≠[])(acc:List UInt8)(a:Nat):decode l.length l acc a=if(z12 l).2.2≠0 then([],a,(z12 l).2.2) else decode (l.drop (z12 l).2.1).length (l.drop (z12 l).2.1) (acc++(z12 l).1) (a+(z12 l).2.1):=by
 cases l with
 |nil=>exact absurd rfl h0
 |cons b t=>
  rw[List.length_cons]
  conv=>lhs;unfold decode
  rw[if_neg (by simp)];split
  · rfl
  · rename_i he;have he:(z12 (b::t)).2.2=0:=by omega
    obtain⟨-,h1,h2, -⟩:=z1u (by simp) he [];simp only[List.length_cons] at h2;rw[z82];rw[List.length_drop,List.length_cons];omega
inductive Dec :List UInt8→List UInt8→Prop
 |nil:Dec [] []
 |cons {l t:List UInt8}:l≠[]→(z12 l).2.2=0→Dec (l.drop (z12 l).2.1) t→Dec l ((z12 l).1++t)
theorem Dec.isU {l t:List UInt8}(h:Dec l t):IsU t:=by
 induction h with
 |nil=>exact .nil
 |cons h0 h1 _ ih=>exact(z1u h0 h1 []).2.2.2.append ih
theorem zuh :∀(n:Nat) (l acc:List UInt8) (a:Nat),l.length≤n→(decode l.length l acc a).2.2=0→∃t,Dec l t∧decode l.length l acc a=(acc++t,0,0)
 |0,l,acc,a,hn,_=>by have:l=[]:=List.eq_nil_of_length_eq_zero (by omega);subst this;exact⟨[],.nil,by simp[decode]⟩
 |n+1,l,acc,a,hn,h=>by
  by_cases h0:l=[]
  · subst h0;exact⟨[],.nil,by simp[decode]⟩
  · rw[zbi h0] at h⊢;by_cases he:(z12 l).2.2≠0
    · rw[if_pos he] at h;exact absurd h he
    · rw[if_neg he] at h⊢;have he:(z12 l).2.2=0:=by omega
      obtain⟨-,h1,h2, -⟩:=z1u h0 he [];obtain⟨t,h3,h4⟩:=zuh n _ _ _ (by rw[List.length_drop];omega) h;exact⟨_,.cons h0 he h3,by rw[h4];simp⟩
theorem zbj {l:List UInt8}(h:(z04 l).2.2=0):Dec l (z04 l).1:=by obtain⟨t,h1,h2⟩:=zuh l.length l [] 0 (Nat.le_refl _) h;unfold z04;rw[h2];simpa using h1
def escL (attr:Bool)(b:UInt8):List UInt8:=
 if b=38 then [38,97,109,112,59] else if b=60 then [38,108,116,59] else if b=62 then [38,103,116,59] else if b=13 then [38,35,49,51,59]
 else if b=34∧attr=true then [38,113,117,111,116,59] else if b=9∧attr=true then [38,35,57,59] else if b=10∧attr=true then [38,35,49,48,59] else [b]
def encL (attr:Bool)(l:List UInt8):List UInt8:=l.flatMap (escL attr)
def z61 (attr:Bool)(l:List UInt8):List UInt8×Int:=if(z0h l).2=0 then(encL attr l,0) else([],10)
end Go.Proofs.YtnlacmnoocigiaaGreatDoor
