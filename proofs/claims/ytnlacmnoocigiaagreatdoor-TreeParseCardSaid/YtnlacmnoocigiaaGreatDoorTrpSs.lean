/- tree: the law's spoil: what Parse has answered is written over. -/
import Derived.Test.YtnlacmnoocigiaaGreatDoorTreM
import Derived.Test.YtnlacmnoocigiaaGreatDoorBaseSt
import Derived.Test.YtnlacmnoocigiaaGreatDoorAwThr
import Derived.Test.YtnlacmnoocigiaaGreatDoorTyTrsE
import Derived.Test.YtnlacmnoocigiaaGreatDoorTrrAll
import Derived.Sort.Walk0
namespace Go.Proofs.YtnlacmnoocigiaaGreatDoor
open Go.RowKit Go.Lib
attribute [local go_sem ↓] Go.wp_at_zero Go.wp_at_succ
theorem zcc {α:Type}{C:Cod α}{w:World}{E:TypeId}{A:Option Addr}{n c:Nat}{o:Option Nat}{l:List α}(h:Own C w E (.slice A n c) o l)(hp:0<l.length):
 ∃g off cur,A=some ⟨g,off,none⟩∧o=some g∧n=l.length∧g<w.heap.size∧w.heap[g]? =some (.cells cur E (0,0))∧off+n*C.size≤cur.size∧∀i (hi:i<l.length) j,j<C.size→w.cell? ⟨g,off+(i*C.size+j),none⟩=(C.cells l[i])[j]? :=by
 rcases h with ⟨A',h1,h2,h3⟩|⟨g,off,cap',cur,h1,h2,h3,h4,h5,h6,h7,h8⟩
 · subst h3;simp at hp
 · simp only[Value.slice.injEq] at h1;obtain⟨rfl,rfl,rfl⟩:=h1;have h:Own C w E (.slice (some ⟨g,off,none⟩) l.length c) o l:=.inr ⟨g,off,c,cur,rfl,h2,h3,h4,h5,h6,h7,h8⟩;refine⟨g,off,cur,rfl,h2,rfl,(Array.getElem?_eq_some_iff.1 h3).1,h3, ?_,fun i hi j hj=> ?_⟩
   · exact Nat.le_trans (Nat.add_le_add_left (Nat.mul_le_mul_right _ h5) _) h7
   · obtain⟨g',off',cp,hv, -, -, -,hc⟩:=h.rd.at_ hi;simp only[Value.slice.injEq,Option.some.injEq,Addr.mk.injEq] at hv;obtain⟨⟨rfl,rfl, -⟩, -⟩:=hv;exact hc j hj
theorem fr2b (w:World)(g a b:Nat)(u v:Value):Fr (fun k=>k=g) w ((w.setCell ⟨g,a,none⟩ u).setCell ⟨g,b,none⟩ v):=(Fr.set_b w g a u).trans (Fr.set_b _ g b v)
def Thr (W:World)(base b g:Nat)(A:Option Addr)(m:Nat):Prop:=0<m→∃ga oa cur E,A=some ⟨ga,oa,none⟩∧ga≠g∧base≤ga∧ga<b∧W.heap[ga]? =some (.cells cur E (0,0))∧oa+2*m≤cur.size
theorem Thr.set {W:World}{base b g:Nat}{A:Option Addr}{m:Nat}(h:Thr W base b g A m)(k i:Nat)(u:Value):Thr (W.setCell ⟨k,i,none⟩ u) base b g A m:=fun hm=>by
 obtain⟨ga,oa,cur,E,h1,h2,h2a,h2b,h3,h4⟩:=h hm;by_cases e:k=ga
 · subst e;exact⟨k,oa,cur.setIfInBounds i u,E,h1,h2,h2a,h2b,heap_setCell_same W k i cur E u h3,by rw[Array.size_setIfInBounds];exact h4⟩
 · exact⟨ga,oa,cur,E,h1,h2,h2a,h2b,by rw[heap_setCell_other W ⟨k,i,none⟩ ga u (fun h=>e h.symm)];exact h3,h4⟩
theorem Thr.at_ {W:World}{base b g:Nat}{A:Option Addr}{m:Nat}(h:Thr W base b g A m){j:Nat}(hj:j<m):∃ga oa u0 u1,A=some ⟨ga,oa,none⟩∧ga≠g∧base≤ga∧ga<b∧W.cell? ⟨ga,oa+j*2,none⟩=some u0∧W.cell? ⟨ga,oa+j*2+1,none⟩=some u1∧∀i,W.frozen? ⟨ga,i,none⟩=false:=by
 obtain⟨ga,oa,cur,E,h1,h2,h2a,h2b,h3,h4⟩:=h (by omega);refine⟨ga,oa,cur[oa+j*2]'(by omega),cur[oa+j*2+1]'(by omega),h1,h2,h2a,h2b, ?_, ?_,fun i=>frozen_of_row W ga i cur E h3⟩
 · rw[cell_of_row W ga _ cur E (0,0) h3];exact Array.getElem?_eq_getElem _
 · rw[cell_of_row W ga _ cur E (0,0) h3];exact Array.getElem?_eq_getElem _
structure SpJ (base g off n c:Nat)(X:List NodeX)(w wr:World)(Y:List NodeV):Prop where
 own:Own nodeC wr 45 (.slice (some ⟨g,off,none⟩) n c) (some g) Y
 len:Y.length=X.length
 hdr:∀(k:Nat) (x:NodeX) (y:NodeV),X[k]? =some x→Y[k]? =some y→y.A=x.v.A∧y.m=x.v.m∧y.c=x.v.c
 thr:∀x∈X,Thr wr base w.heap.size g x.v.A x.v.m
 fr:Fr (fun k=>base≤k) w wr
 gb:base≤g∧g<w.heap.size
 mb:∀x∈X,x.v.m≤9223372036854775807
namespace SpJ
variable {base g off n c : Nat} {X : List NodeX} {w wr : World} {Y : List NodeV}
theorem attr (h:SpJ base g off n c X w wr Y)(ga i:Nat)(u v:Value)(hg:ga≠g)(hb:base≤ga):SpJ base g off n c X w ((wr.setCell ⟨ga,i,none⟩ u).setCell ⟨ga,i+1,none⟩ v) Y:=⟨h.own.fr (fr2b wr ga i (i+1) u v) (fun k hk e=>hg (by cases hk;exact e.symm)),h.len,h.hdr,fun x hx=>((h.thr x hx).set ga i u).set ga (i+1) v,h.fr.trans ((fr2b wr ga i (i+1) u v).mono (fun k hk=>by rw[hk];exact hb)),h.gb,h.mb⟩
theorem node (h:SpJ base g off n c X w wr Y){i:Nat}(hi:i<Y.length):SpJ base g off n c X w ((wr.setCell ⟨g,off+i*7,none⟩ (.string ⟨#[63]⟩)).setCell ⟨g,off+i*7+5,none⟩ (.int .i64 77)) (Y.set i {Y[i] with name:=⟨#[63]⟩,next:=77}):=by
 have h0:=h.own.set1 (j:=0) hi (by decide) (u:=.string ⟨#[63]⟩) (x':={Y[i] with name:=⟨#[63]⟩}) (by rfl);have h1:=h0.set1 (i:=i) (j:=5) (by simpa using hi) (by decide) (u:=.int .i64 77) (x':={Y[i] with name:=⟨#[63]⟩,next:=77}) (by rw[List.getElem_set_self];rfl);rw[List.set_set] at h1;refine⟨h1,by rw[List.length_set];exact h.len,fun k x y hx hy=> ?_,fun x hx=>((h.thr x hx).set g _ _).set g _ _,h.fr.trans ((fr2b wr g _ _ _ _).mono (fun k hk=>by rw[hk];exact h.gb.1)),h.gb,h.mb⟩;rw[List.getElem?_set] at hy;split at hy
 · rename_i e;subst e;try rw[if_pos hi] at hy
   cases hy;exact h.hdr i x Y[i] hx (List.getElem?_eq_getElem hi)
 · exact h.hdr k x y hx hy
theorem keep {wr':World}(h:SpJ base g off n c X w wr Y)(f:Fr (fun _=>False) wr wr'):SpJ base g off n c X w wr' Y:=⟨h.own.fr f (fun _ _ h=>h),h.len,h.hdr,fun x hx hm=>by obtain⟨ga,oa,cur,E,h1,h2,h3,h4,h5,h6⟩:=h.thr x hx hm;exact⟨ga,oa,cur,E,h1,h2,h3,h4,(f.block ga (Array.getElem?_eq_some_iff.1 h5).1 (fun h=>h)).trans h5,h6⟩,h.fr.trans (f.mono (fun _ h=>h.elim)),h.gb,h.mb⟩
theorem cells (h:SpJ base g off n c X w wr Y){i:Nat}(hi:i<Y.length):wr.cell? ⟨g,off+i*7,none⟩=some (.string Y[i].name)∧wr.cell? ⟨g,off+i*7+1,none⟩=some (.slice Y[i].A Y[i].m Y[i].c)∧wr.cell? ⟨g,off+i*7+5,none⟩=some (.int .i64 Y[i].next)∧∀k,wr.frozen? ⟨g,k,none⟩=false:=by obtain⟨g',off',cur,h1,h2,h3,h4,h5,h6,h7⟩:=zcc h.own (by omega);simp only[Option.some.injEq,Addr.mk.injEq,and_true] at h1;obtain⟨rfl,rfl⟩:=h1;exact⟨h7 i hi 0 (by decide),h7 i hi 1 (by decide),h7 i hi 5 (by decide),fun k=>frozen_of_row wr _ k cur _ h5⟩
end SpJ
theorem zqr {w:World}{base c:Nat}{A:Option Addr}{o:Option Nat}{X:List NodeX}(h:NodeL w base (.slice A X.length c) o X)(h0:0<X.length):∃g off,A=some ⟨g,off,none⟩∧SpJ base g off X.length c X w w (X.map (·.v)):=by
 obtain⟨g,off,cur,rfl,ho, -,hg, -⟩:=zcc h.own (by rw[List.length_map];exact h0);have hown:=h.own;rw[ho] at hown;refine⟨g,off,rfl,hown,by rw[List.length_map],fun k x y hx hy=> ?_,fun x hx hm=> ?_,Fr.refl _ _,h.new g ho,fun x hx=> ?_⟩
 · rw[List.getElem?_map,hx] at hy;cases hy;exact⟨rfl,rfl,rfl⟩
 · obtain⟨h1,h2⟩:=h.ok x hx;obtain⟨ga,oa,cur,h3,h4,h5,h6,h7,h8, -⟩:=zcc h2 (by rw[←h1];exact hm);obtain⟨n1,n2,n3⟩:=h.newa x hx ga h4;exact⟨ga,oa,cur,_,h3,fun e=>n3 (by rw[e];exact ho),n1,n2,h7,by have:oa+x.v.m*2≤cur.size:=h8;omega⟩
 · obtain⟨h1,h2⟩:=h.ok x hx;obtain⟨A2,c2,hv,h5,h6⟩:=h2.form;unfold maxLen at h6;omega
set_option maxRecDepth 100000 in
set_option maxHeartbeats 8000000 in
theorem zqs {w:World}{base c:Nat}{A:Option Addr}{o:Option Nat}{X:List NodeX}(h:NodeL w base (.slice A X.length c) o X)(hb:base≤w.heap.size):
 Calls Tryz.prog 10 #[.agg #[.slice A X.length c]] w fun e w'=>e=.returned (.tuple #[])∧Fr (fun k=>base≤k) w w':=by
 have hn63:X.length≤9223372036854775807:=by obtain⟨A2,c2,hv,h5,h6⟩:=h.own.form;simp only[List.length_map] at h5;unfold maxLen at h6;omega
 by_cases h0:X.length=0
 · rw[h0];clear h hn63 h0;go_enter Tryz.func10,Tryz.ntmps10;go_wp2_with fail;go_loopw [2] (fun iv wr=>iv=.int .i64 0∧Hid (wr.cell? ⟨w.heap.size,0,none⟩=some (.slice A 0 c)∧Fr (fun k=>base≤k) w wr)) (fun _ _=>0)
   case atStart=>exact⟨rfl,hide ⟨by go_simp,(Fr.refl _ _).alloc _⟩⟩
   case round=>
    obtain⟨rfl,hJ⟩:=hrel;have hc:=hJ.out.1;go_wp2_with fail;go_returns;exact⟨rfl,hJ.out.2⟩
 obtain⟨g,off,rfl,hJ0⟩:=zqr h (by omega);obtain⟨n,hn'⟩:∃n,X.length=n:=⟨_,rfl⟩;rw[hn'] at hn63 hJ0⊢;have hn:=hide hn';clear hn';have HJ0:=hide (hJ0.keep (Fr.alloc (Fr.refl _ w) (.cells #[.slice (some ⟨g,off,none⟩) n c] 31)));clear h h0 hb hJ0;go_enter Tryz.func10,Tryz.ntmps10;go_wp2_with fail;go_loopw [2] (fun iv wr=>∃(i:Nat) (Y:List NodeV),iv=.int .i64 i∧i≤n∧Hid (SpJ base g off n c X w wr Y)∧Hid (wr.cell? ⟨w.heap.size,0,none⟩=some (.slice (some ⟨g,off,none⟩) n c))) (fun iv _=>n - (Go.RowKit.intOf iv).toNat)
 case atStart=>exact⟨0,_,rfl,Nat.zero_le _,HJ0,hide (by go_simp)⟩
 case round=>
  obtain⟨i,Y,rfl,hin,hJ,hB⟩:=hrel;have hbx:=hB.out;by_cases hi:i<n
  · have hii:(i:Int)<n:=by omega
    have hiY:i<Y.length:=by rw[hJ.out.len,hn.out];exact hi
    have hiX:i<X.length:=by rw[hn.out];exact hi
    go_wp2_with fail
    go_loopw [3] (fun jv wr2=>∃(j:Nat),jv=.int .i64 j∧j≤Y[i].m∧Hid (SpJ base g off n c X w wr2 Y)∧Hid (wr2.cell? ⟨w.heap.size,0,none⟩=some (.slice (some ⟨g,off,none⟩) n c))) (fun jv _=>Y[i].m - (Go.RowKit.intOf jv).toNat)
    case atStart=>exact⟨0,rfl,Nat.zero_le _,hJ,hB⟩
    case round=>
     obtain⟨j,rfl,hjm,hK,hC⟩:=hrel;have hby:=hC.out;obtain⟨q0,q1,q5,qf⟩:=hK.out.cells hiY;have hT:=hK.out.thr X[i] (List.getElem_mem hiX);obtain⟨e1,e2,e3⟩:=hK.out.hdr i X[i] Y[i] (List.getElem?_eq_getElem hiX) (List.getElem?_eq_getElem hiY);have hmb:=hK.out.mb X[i] (List.getElem_mem hiX);rw[←e1,←e2] at hT;rw[←e2] at hmb;have hnode:=hide (hK.out.node hiY);have hgb:=hK.out.gb;have hbg:¬w.heap.size=g:=by omega
     clear e1 e2 e3;generalize Y[i]=y at*;obtain⟨yn,yA,ym,yc,yt,yp,yf,yx,ya⟩:=y;simp only at q0 q1 q5 hT hjm hmb;by_cases hj:j<ym
     · have hjj:(j:Int)<ym:=by omega
       obtain⟨ga,oa,u0,u1,rfl,g1,g2,g3,a0,a1,af⟩:=hT.at_ hj;have hat:=hide (hK.out.attr ga (oa+j*2) (.string ⟨#[63]⟩) (.string ⟨#[63]⟩) g1 g2);have hbga:¬w.heap.size=ga:=by omega
       clear hT g1 g2 g3 q0 q5 qf;go_wp2_with fail;go_roundw
       case rel=>exact⟨j+1,by go_num,by omega,hat,hide (((fr2b _ ga _ _ _ _).cell (p:=⟨w.heap.size,0,none⟩) (World.block_lt_of_cell? _ _ hC.out) hbga).trans hC.out)⟩
       case measure=>simp[Go.RowKit.intOf];omega
     · obtain rfl:j=ym:=by omega
       clear hT;go_wp2_with fail;go_roundw
       case rel=>exact⟨i+1,_,by go_num,by omega,hnode,hide (((fr2b _ g _ _ _ _).cell (p:=⟨w.heap.size,0,none⟩) (World.block_lt_of_cell? _ _ hC.out) hbg).trans hC.out)⟩
       case measure=>simp[Go.RowKit.intOf];omega
  · obtain rfl:i=n:=by omega
    go_wp2_with fail
    go_returns;exact⟨rfl,hJ.out.fr⟩
end Go.Proofs.YtnlacmnoocigiaaGreatDoor
namespace Go.Proofs.YtnlacmnoocigiaaGreatDoor.Aw
open Go.RowKit Go.Lib
def z9t (a:z0b):List AV:=[.sc (.string a.1),.sc (.string a.2),.dead]
theorem zqt {x y:z0b}(h:nmA x=nmA y):x.1=y.1:=by
 unfold nmA at h;have:=Array.toList_inj.1 h;cases hx:x.1;cases hy:y.1;rw[hx,hy] at this
 simp_all
theorem zxw (x y:z0b):(!(Op.bytesLess x.1.toList y.1.toList||decide (x.1=y.1)))=decide (nmA y<nmA x):=by
 rw[bytesLess_eq,Lib.toList_data,Lib.toList_data];by_cases h:x.1=y.1
 · have:¬nmA y<nmA x:=by unfold nmA;rw[h];exact z2o _
   simp[h,this]
 · have h2:nmA x≠nmA y:=fun e=>h (zqt e);show (!(decide (nmA x<nmA y)||_))=_;rw[decide_eq_false h,Bool.or_false];rcases za9 (nmA x) (nmA y) with h3|h3|h3
   · have:¬nmA y<nmA x:=fun h4=>z2o _ (z35 h3 h4);simp[h3,this]
   · exact absurd h3 h2
   · have:¬nmA x<nmA y:=fun h4=>z2o _ (z35 h3 h4);simp[h3,this]
set_option maxHeartbeats 4000000 in
set_option maxRecDepth 100000 in
theorem zmj {Φ:World→Prop}(L:List z0b)(hL:L.length≤1000000):Con Tryz.prog Φ 44 [.ro (L.map z9t)] (if dupA L then .tup [.ro [],.sc (.bool false)] else .tup [.ro ((z5f L).map encA),.sc (.bool true)]) []:=by
 refine zba [(8,[(15,[3,4])])] (fun w _=>zfc w) (by kernel_rfl) Tryz.func44 rfl ?_;intro _;simp only[Tryz.ntmps44];simp only[List.length_cons,List.length_nil,Nat.reduceAdd,Nat.reduceSub,List.replicate_succ,List.replicate_zero,List.cons_append,List.nil_append];simp (maxSteps:=2000000) only[↓awA,awB,evA,envE,ofV,putE,z00,setRow,spl,oneP,z0f,frzA,mapO,z0p,z0a,z06,z07,z0q,z0v,scA,Row.len,z0i,rep,z09,z05,Value.oneCell',seval,tys,  Tryz.results44]
 refine z7u (fun O:List z0b=>[.ro (L.map z9t),.dead,.dead,.dead,.sl 0 O.length,.sc (.int .i64 (O.length:Int))]++z16 74) (fun O=>[.lst 2 (O.map encA) 80])
  (fun O=>O.length≤L.length∧O.Pairwise ltA∧O.Perm (L.take O.length)) (fun O=>L.length - O.length) [] ?_ ⟨Nat.zero_le _,List.Pairwise.nil,by simp⟩ ?_
 · simp[Weak,z1t,z1d,z1k,nilV,nilR,okA,z00,z16]
 rintro O ⟨h1,h2,h3⟩;simp only[z16,List.replicate_succ,List.replicate_zero,List.cons_append,List.nil_append];by_cases hlt:¬O.length<L.length
 · have hll:O.length=L.length:=by omega
   rw[hll,List.take_length] at h3;obtain⟨e1,e2⟩:=zki h2 h3;rw[if_neg e2,←e1];simp (maxSteps:=2000000) only[↓awA,awB,evA,envE,ofV,putE,z00,setRow,spl,oneP,z0f,frzA,mapO,z0p,z0a,z06,z07,z0q,z0v,scA,Row.len,z0i,rep,z09,z05,Value.oneCell',seval,tys,  hlt,Tryz.results44]
 have hlt:O.length<L.length:=Classical.not_not.mp hlt;generalize hx:L[O.length]=x;have hsnoc:(O.map encA++[[AV.sc (.string x.1),.sc (.string x.2)]])=(z3a O x O.length).map encA:=by rw[zqu,List.map_append];rfl
 simp (maxSteps:=2000000) only[↓awA,awB,evA,envE,ofV,putE,z00,setRow,spl,oneP,z0f,frzA,mapO,z0p,z0a,z06,z07,z0q,z0v,scA,Row.len,z0i,rep,z09,z05,Value.oneCell',seval,tys,  hlt,hx,z9t,List.length_append];refine⟨z1s (by kernel_rfl),by omega, ?_⟩;rw[hsnoc]
 refine z7u (fun k:Nat=>[.ro (L.map z9t),.dead,.dead,.dead,.sl 0 (O.length+1),.sc (.int .i64 (O.length:Int)),.sc (.int .i64 (k:Int))]++z16 73) (fun k=>[.lst 2 ((z3a O x k).map encA) 80])
  (fun k=>SlotOk O x k) (fun k=>k) O.length ?_ (SlotOk.start O x) ?_
 · simp[Weak,z1t,z1d,z1k,nilV,nilR,okA,z00,z16]
 rintro k hk;simp only[z16,List.replicate_succ,List.replicate_zero,List.cons_append,List.nil_append];have hlen:=zha (x:=x) hk.1;have hle:O.length≤9000000000000000000:=by omega
 have hperm':∀k,k≤O.length→(O++[x]).Perm (L.take (O.length+1)):=fun k hk=>by rw[List.take_succ_eq_append_getElem hlt,hx];exact h3.append_right _
 have hperm:∀k,k≤O.length→(z3a O x k).Perm (L.take (z3a O x k).length):=fun k hk=>by rw[zha hk];exact(zml O x k).trans (hperm' k hk)
 cases k with
 |zero=>
  have c0:decide (((0:Nat):Int)>0)=false:=rfl;simp (maxSteps:=2000000) only[↓awA,awB,evA,envE,ofV,putE,z00,setRow,spl,oneP,z0f,frzA,mapO,z0p,z0a,z06,z07,z0q,z0v,scA,Row.len,z0i,rep,z09,z05,Value.oneCell',seval,tys,  c0,z9b hle];refine⟨z1s (by kernel_rfl),z1s (by kernel_rfl), ?_⟩;refine z1f (z3a O x 0) ?_ ⟨by omega,zaa h2 hk (fun j y h=>by cases h), ?_⟩ (by omega)
  · simp[Weak,z1t,z1d,z1k,nilV,nilR,okA,z00,z16,hlen]
  · exact hperm 0 hk.1
 |succ j=>
  have hj:j<O.length:=hk.1;have c0:decide (((j+1:Nat):Int)>0)=true:=decide_eq_true (by omega);obtain⟨y,hy⟩:∃y,O[j]? =some y:=⟨_,List.getElem?_eq_getElem hj⟩;have e1:at_ ((z3a O x (j+1)).map encA) j=encA y:=z58 (by rw[zj2 hk.1 (Nat.lt_succ_self j),hy]);have e2:at_ ((z3a O x (j+1)).map encA) (j+1)=encA x:=z58 (zu0 hk.1);have b1:j<O.length+1:=by omega
  have b2:j+1<O.length+1:=by omega
  have hnm:=zxw y x;cases h0:decide (nmA x<nmA y)
  case true=>
   rw[h0] at hnm;have e3:∀z:List AV,at_ ((List.map encA (z3a O x (j+1))).set j z) (j+1)=encA x:=fun z=>by rw[zno (by omega),e2]
   simp (maxSteps:=2000000) only[↓awA,awB,evA,envE,ofV,putE,z00,setRow,spl,oneP,z0f,frzA,mapO,z0p,z0a,z06,z07,z0q,z0v,scA,Row.len,z0i,rep,z09,z05,Value.oneCell',seval,tys,  c0,zhv (n:=j) (by omega),e1,e2,e3,hlen,b1,b2,encA,hnm];refine⟨z1s (by kernel_rfl),z1s (by kernel_rfl), ?_⟩;refine z1f j ?_ (hk.step hy (show nmA x<nmA y from of_decide_eq_true h0)) (by omega);have hst:(z3a O x j).map encA=((List.map encA (z3a O x (j+1))).set j [.sc (.string x.1),.sc (.string x.2)]).set (j+1) [.sc (.string y.1),.sc (.string y.2)]:=by rw[←zmk hj hy,List.map_set,List.map_set];rfl
   simp[Weak,z1t,z1d,z1k,nilV,nilR,okA,z00,z16,hst]
  rw[h0] at hnm;cases h4:decide (y.1=x.1)
  case true=>
   rw[if_pos (zqv (hperm' _ hk.1) hk.1 rfl hy (by unfold nmA;rw[of_decide_eq_true h4]))];simp (maxSteps:=2000000) only[↓awA,awB,evA,envE,ofV,putE,z00,setRow,spl,oneP,z0f,frzA,mapO,z0p,z0a,z06,z07,z0q,z0v,scA,Row.len,z0i,rep,z09,z05,Value.oneCell',seval,tys,  c0,zhv (n:=j) (by omega),e1,e2,hlen,b1,b2,encA,hnm,h4,Tryz.results44];exact⟨z1s (by kernel_rfl),z1s (by kernel_rfl)⟩
  rw[h4,Bool.or_false] at hnm;simp (maxSteps:=2000000) only[↓awA,awB,evA,envE,ofV,putE,z00,setRow,spl,oneP,z0f,frzA,mapO,z0p,z0a,z06,z07,z0q,z0v,scA,Row.len,z0i,rep,z09,z05,Value.oneCell',seval,tys,  c0,zhv (n:=j) (by omega),z9b hle,e1,e2,hlen,b1,b2,encA,hnm,h4];refine⟨z1s (by kernel_rfl),z1s (by kernel_rfl), ?_⟩;refine z1f (z3a O x (j+1)) ?_ ⟨by omega,zaa h2 hk (fun j' y' h1 h2=> ?_),hperm _ hk.1⟩ (by omega)
  · simp[Weak,z1t,z1d,z1k,nilV,nilR,okA,z00,z16,hlen]
  · obtain rfl:j'=j:=by omega
    rw[hy] at h2;cases h2;rcases za9 (nmA x) (nmA y) with h|h|h
    · exact absurd h (of_decide_eq_false h0)
    · exact absurd (zqt h.symm) (of_decide_eq_false h4)
    · exact h
end Go.Proofs.YtnlacmnoocigiaaGreatDoor.Aw
