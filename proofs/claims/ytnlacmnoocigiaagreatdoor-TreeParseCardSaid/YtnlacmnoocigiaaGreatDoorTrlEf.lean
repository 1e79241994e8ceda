/- tree: Write. -/
import Derived.Test.YtnlacmnoocigiaaGreatDoorTrlD
import Derived.Test.YtnlacmnoocigiaaGreatDoorTrkAll
import Derived.Test.YtnlacmnoocigiaaGreatDoorTreM
import Derived.Test.YtnlacmnoocigiaaGreatDoorTreNo
import Derived.Deep.DeepFit
namespace Go.Proofs.YtnlacmnoocigiaaGreatDoor
open Go.RowKit Go.Lib
attribute [local go_sem ↓] Go.wp_at_zero Go.wp_at_succ
theorem zh8 (A:Option Addr)(n c:Nat)(X:List NodeX)(S:Nat→Prop)(b:Nat)(hS:∀k,S k→k<b)(hfree:∀k,b≤k→Free k)(hz:∀x∈X,zqk x.model)(hg:∀x∈X,Good x.model):
 ∀(m:Nat) (x:NodeM) (k r:Fo) (p:Int) (i:Nat) (rest:List NodeM),k.size<m→zqn A n c X S b x k r p i rest
 |0,_,_,_,_,_,_,h=>by omega
 |m+1,x,k,r,p,i,rest,h=>zmf A n c X S b hS hfree hz hg x k r p i rest (fun y ky ry p2 j rest2 hk=>zh8 A n c X S b hS hfree hz hg m y ky ry p2 j rest2 (by omega))
def z9q (N:List NodeM)(t:List UInt8):Prop:=∃x k,RightF N x k∧t=(Fo.cons x k .nil).wr
theorem zqo {a b c:List UInt8}(h1:¬b<a)(h2:¬c<b):¬c<a:=fun h=>by
 rcases za9 a b with h3|rfl|h3
 · exact h2 (z35 h h3)
 · exact h2 h
 · exact h1 h3
theorem z7r :∀{l:List z0b},z8a l=true→l.Pairwise (fun a b=>¬nmA b<nmA a)
 |[],_=>.nil
 |[x],_=>by simp
 |x::y::l,h=>by
  rw[z8a,Bool.and_eq_true,Bool.not_eq_true',decide_eq_false_iff_not] at h;have ih:=z7r h.2;rw[List.pairwise_cons];refine⟨fun z hz=> ?_,ih⟩;rcases List.mem_cons.1 hz with rfl|hz
  · exact h.1
  · exact zqo h.1 ((List.pairwise_cons.1 ih).1 z hz)
theorem zj0 {x:NodeM}(h:z6e x=true):Good x:=by
 unfold z6e at h;simp only[Bool.and_eq_true] at h;obtain⟨h1,h2,h3,h4⟩:=h;unfold z7k at h2;simp only[Bool.and_eq_true,Bool.not_eq_true',decide_eq_true_eq] at h2;obtain⟨a1,a2,a3,a4⟩:=h2;have hs:x.attrs.Pairwise ltA:=z87 (z7r a2) a3;refine⟨h1,fun p hp=> ?_,a1,hs,by unfold txL;simpa using h3, ?_⟩
 · unfold atL at hp;obtain⟨a,ha,rfl⟩:=List.mem_map.1 hp;have hb:badA a=false:=by rw[List.any_eq_false] at a4;simpa using a4 a ha
   unfold badA at hb;simp only[Bool.or_eq_false_iff,Bool.not_eq_false'] at hb;exact⟨hb.1,by simpa using hb.2⟩
 · rw[Bool.or_eq_true] at h4;rcases h4 with h4|h4
   · exact .inl (of_decide_eq_true h4)
   · right;unfold z23;unfold z2f at h4;simpa using h4
set_option maxRecDepth 100000 in
set_option maxHeartbeats 4000000 in
theorem zmg (w:World)(hst:St w)(A:Option Addr)(n c:Nat)(X:List NodeX)(S:Nat→Prop)(hrd:NodesRd w S (.slice A n c) X)(hS:∀k,S k→k<w.heap.size)(hz:∀x∈X,zql x.model)
 (hl:∀t,z9q (X.map (·.model)) t→t.length≤1000000000):
 Calls Tryz.prog 16 #[.agg #[.slice A n c]] w fun e w'=>((z3y (X.map (·.model))=false∧e=.returned (.tuple #[.string ⟨#[]⟩,.int .i64 50]))∨(z3y (X.map (·.model))=true∧∃t,z9q (X.map (·.model)) t∧e=.returned (.tuple #[.string ⟨t.toArray⟩,.int .i64 0])))∧Fr (fun _=>False) w w':=by
 have hsm:∀x∈X,zc2 x.model:=fun x hx=>by obtain⟨h1,h2,h3⟩:=hz x hx;exact⟨h1,by omega,fun hl a ha=>⟨(h3 hl a ha).1,by have:=(h3 hl a ha).2;omega⟩⟩
 have fa:Fr (fun _=>False) w (w.alloc (.cells #[.slice A n c] 31)):=Fr.alloc (Fr.refl _ _) _;have hb0:=heap_alloc_new w (.cells #[.slice A n c] 31);have HBX:=hide (fun(W:World) (f:Fr (fun _=>False) (w.alloc (.cells #[.slice A n c] 31)) W)=>show W.cell? ⟨w.heap.size,0,none⟩=some (.slice A n c) from by rw[f.cell (by simp) (fun h=>h),cell_of_row _ _ _ _ _ _ hb0];rfl);have FA:=hide fa;have HCK:=hide (zca _ (hst.same fa) A n c X S (hrd.fr fa (fun k hk=>⟨hS k hk,fun h=>h⟩)) (fun k hk=>Nat.lt_of_lt_of_le (hS k hk) fa.size) hsm)
 cases hc:z3y (X.map (·.model)) with
 |false=>rw[hc] at HCK;have HCK:Hid (Calls Tryz.prog 13 #[.agg #[.slice A n c]] (w.alloc (.cells #[.slice A n c] 31)) fun e w'=>e=.returned (.int .i64 50)∧Fr (fun _=>False) (w.alloc (.cells #[.slice A n c] 31)) w'):=HCK;clear hst hrd hS hz hl hsm fa hb0 hc;go_enter Tryz.func16,Tryz.ntmps16;go_wp2_with (go_at_call 13;refine HCK.out.mono ?_;rintro e w1 ⟨rfl,f1⟩);go_returns;exact⟨.inl ⟨by first|trivial|rfl,rfl⟩,FA.out.trans f1⟩
 |true=>
  rw[hc] at HCK;have HCK:Hid (Calls Tryz.prog 13 #[.agg #[.slice A n c]] (w.alloc (.cells #[.slice A n c] 31)) fun e w'=>e=.returned (.int .i64 0)∧Fr (fun _=>False) (w.alloc (.cells #[.slice A n c] 31)) w'):=HCK;obtain⟨x,k,hR⟩:=zez hc;have hlen:=hl _ ⟨x,k,hR,rfl⟩;have hzw:∀x∈X,zqk x.model:=fun y hy=>by obtain⟨z1,z2,z3⟩:=hz y hy;exact⟨z1,z2,z3 (zj0 (hR.plain _ (List.mem_map_of_mem (f:=fun x:NodeX=>x.model) hy))).few⟩
  have hgood:∀x∈X,Good x.model:=fun y hy=>zj0 (hR.plain _ (List.mem_map_of_mem (f:=fun x:NodeX=>x.model) hy));have hdrop:(X.map (·.model)).drop 0=(Fo.cons x k .nil).flat (-1) 0++[]:=by rw[List.drop_zero,hR.flat,List.append_nil]
  have HW:=hide (fun(W:World) (f:Fr (fun _=>False) w W)=>zh8 A n c X S W.heap.size (fun k hk=>Nat.lt_of_lt_of_le (hS k hk) f.size) (fun k hk=>hst.free (Nat.le_trans f.size hk)) hzw hgood (k.size+1) x k .nil (-1) 0 [] (Nat.lt_succ_self _) hdrop
   (W.alloc (.cells #[.pointer none,.slice none 0 0] 89)) [] (hst.same (f.alloc _)) (hrd.fr (f.alloc _) (fun k hk=>⟨hS k hk,fun h=>h⟩)) (Bd.fresh W) (by simpa using hlen))
  have HRW:=hide (show z9q (X.map (·.model)) (Fo.cons x k .nil).wr from⟨x,k,hR,rfl⟩);generalize (Fo.cons x k .nil).wr=t at*;clear hst hrd hS hz hzw hl hsm fa hb0 hc hR hlen hgood hdrop;go_enter Tryz.func16,Tryz.ntmps16
  go_wp2_with (first
   |(go_at_call 13;refine HCK.out.mono ?_;rintro e w1 ⟨rfl,f1⟩;have F1:=hide (FA.out.trans f1);have b1:=HBX.out w1 f1;have b2:=(Fr.cell (Fr.alloc (Fr.refl (fun _=>False) w1) (.cells #[.pointer none,.slice none 0 0] 89)) (p:=⟨w.heap.size,0,none⟩) (World.block_lt_of_cell? w1 ⟨w.heap.size,0,none⟩ b1) (fun h=>h)).trans b1)
   |(go_at_call 35;refine(HW.out w1 F1.out).mono ?_;rintro e w2 ⟨rfl,hB2,hW2⟩;have HB2:=hide hB2;have HW2:=hide hW2;clear hB2 hW2)
   |(go_at_call 36;refine(z47 _ _ _ HB2.out).mono ?_;rintro e w3 ⟨rfl, -,hb3⟩))
  go_returns;refine⟨.inr ⟨by first|trivial|rfl,t,HRW.out,rfl⟩, ?_⟩
  exact Fr.of_below_new (Fr.of_below_new (F1.out.alloc _) F1.out.size HW2.out.below) F1.out.size hb3
end Go.Proofs.YtnlacmnoocigiaaGreatDoor
namespace Go.Proofs.YtnlacmnoocigiaaGreatDoor
open Go.RowKit Go.Lib
attribute [local go_sem ↓] Go.wp_at_zero Go.wp_at_succ
theorem Fo.pos_of :∀{F:Fo},F.isNil=false→1≤F.size
 |.nil,h=>by cases h
 |.cons x k r,_=>by rw[Fo.size];omega
theorem z9r :∀(F:Fo) (p:Int) (n j:Nat) (x:NodeM),(F.flat p n)[j]? =some x→
 (x.first= -1∨(((n+j:Nat):Int)<x.first∧x.first<((n+F.size:Nat):Int)))∧(x.next= -1∨(((n+j:Nat):Int)<x.next∧x.next<((n+F.size:Nat):Int)))
 |.nil,p,n,j,x,h=>by cases h
 |.cons y k r,p,n,0,x,h=>by
  cases h;rw[Fo.size];unfold Fo.mk;constructor
  · simp only
    cases hk:k.isNil with
    |true=>exact .inl rfl
    |false=>have:=Fo.pos_of hk;right;simp only[Bool.false_eq_true,if_false];omega
  · simp only
    cases hr:r.isNil with
    |true=>exact .inl rfl
    |false=>have:=Fo.pos_of hr;right;simp only[Bool.false_eq_true,if_false];omega
 |.cons y k r,p,n,j+1,x,h=>by
  rw[Fo.flat,List.getElem?_cons_succ] at h;rw[Fo.size];by_cases hj:j<k.size
  · rw[List.getElem?_append_left (by rw[Fo.flat_len];exact hj)] at h;obtain⟨h1,h2⟩:=z9r k _ _ _ _ h;constructor
    · rcases h1 with h1|h1
      · exact .inl h1
      · right;omega
    · rcases h2 with h2|h2
      · exact .inl h2
      · right;omega
  · rw[List.getElem?_append_right (by rw[Fo.flat_len];omega),Fo.flat_len] at h;obtain⟨h1,h2⟩:=z9r r _ _ _ _ h;constructor
    · rcases h1 with h1|h1
      · exact .inl h1
      · right;omega
    · rcases h2 with h2|h2
      · exact .inl h2
      · right;omega
def z97 (N:List NodeM):Nat→Int→List Int
 |0,_=>[]
 |f+1,k=>if k<0 then [] else k::z97 N f ((N[k.toNat]?.map (·.next)).getD (-1))
def z9s (N:List NodeM)(i:Int):List Int:=if i<0∨(N.length:Int)≤i∨z3y N=false then [] else z97 N (N.length+1) ((N[i.toNat]?.map (·.first)).getD (-1))
def zf1 (L:List Int)(w:World)(e:Ending)(w':World):Prop:=∃B m d o,e=.returned (.slice B m d)∧Own intT w' 3 (.slice B m d) o L∧(∀k,o=some k→w.heap.size≤k)∧Fr (fun _=>False) w w'
set_option maxRecDepth 100000 in
set_option maxHeartbeats 8000000 in
theorem ztv (w:World)(hst:St w)(A:Option Addr)(n c:Nat)(X:List NodeX)(S:Nat→Prop)(i:Int)(hrd:NodesRd w S (.slice A n c) X)(hS:∀k,S k→k<w.heap.size)(hz:∀x∈X,zc2 x.model):
 Calls Tryz.prog 18 #[.agg #[.slice A n c],.int .i64 i] w (zf1 (z9s (X.map (·.model)) i) w):=by
 obtain⟨hla,hm63⟩:=hrd.rd.lenT;rw[List.length_map] at hla;have fa:Fr (fun _=>False) w (w.alloc (.cells #[.slice A n c] 31)):=Fr.alloc (Fr.refl _ _) _;have hb0:=heap_alloc_new w (.cells #[.slice A n c] 31);have HBX:=hide (fun(W:World) (f:Fr (fun _=>False) (w.alloc (.cells #[.slice A n c] 31)) W)=>show W.cell? ⟨w.heap.size,0,none⟩=some (.slice A n c) from by rw[f.cell (by simp) (fun h=>h),cell_of_row _ _ _ _ _ _ hb0];rfl);have FA:=hide fa;have HCK:=hide (zca _ (hst.same fa) A n c X S (hrd.fr fa (fun k hk=>⟨hS k hk,fun h=>h⟩)) (fun k hk=>Nat.lt_of_lt_of_le (hS k hk) fa.size) hz);have hnone:∀W,Fr (fun _=>False) w W→z9s (X.map (·.model)) i=[]→zf1 (z9s (X.map (·.model)) i) w (.returned (.slice none 0 0)) W:=fun W f h=>by rw[h];exact⟨none,0,0,none,rfl,Own.nil_ _ _ _ _,fun k hk=>(by cases hk),f⟩
 have HNO:=hide hnone;by_cases h0:i<0
 · have hk:z9s (X.map (·.model)) i=[]:=by unfold z9s;rw[if_pos (.inl h0)]
   have HK:=hide hk;clear hk hnone hst hrd hS hz hla fa hb0 HCK;go_enter Tryz.func18,Tryz.ntmps18;go_wp2_with fail;go_returns;exact HNO.out _ FA.out HK.out
 · obtain⟨q,rfl⟩:∃q:Nat,i=(q:Int):=⟨i.toNat,by omega⟩;by_cases h1:(n:Int)≤q
   · have hk:z9s (X.map (·.model)) (q:Int)=[]:=by unfold z9s;rw[List.length_map,hla,if_pos (.inr (.inl h1))]
     have HK:=hide hk;have h2:n≤q:=by omega
     have s1:=HBX.out _ (Fr.refl _ _);clear hk hnone hst hrd hS hz hla fa hb0 HCK;go_enter Tryz.func18,Tryz.ntmps18;go_wp2_with fail;go_returns;exact HNO.out _ FA.out HK.out
   · have h2:¬n≤q:=by omega
     have h3:(q:Int)<n:=by omega
     have h4:(0:Int)≤q:=by omega
     cases hc:z3y (X.map (·.model)) with
     |false=>
      rw[hc] at HCK;have HCK:Hid (Calls Tryz.prog 13 #[.agg #[.slice A n c]] (w.alloc (.cells #[.slice A n c] 31)) fun e w'=>e=.returned (.int .i64 50)∧Fr (fun _=>False) (w.alloc (.cells #[.slice A n c] 31)) w'):=HCK;have hk:z9s (X.map (·.model)) (q:Int)=[]:=by unfold z9s;rw[if_pos (.inr (.inr hc))]
      have HK:=hide hk;clear hk hnone hst hrd hS hz hla fa hb0 hc;go_enter Tryz.func18,Tryz.ntmps18;go_wp2_with (go_at_call 13;refine HCK.out.mono ?_;rintro e w1 ⟨rfl,f1⟩);go_returns;exact HNO.out _ (FA.out.trans f1) HK.out
     |true=>
      rw[hc] at HCK;have HCK:Hid (Calls Tryz.prog 13 #[.agg #[.slice A n c]] (w.alloc (.cells #[.slice A n c] 31)) fun e w'=>e=.returned (.int .i64 0)∧Fr (fun _=>False) (w.alloc (.cells #[.slice A n c] 31)) w'):=HCK;obtain⟨x0,k0,hR⟩:=zez hc
      have hlk:∀(j:Nat) (hj:j<X.length),(X[j].v.first= -1∨((j:Int)<X[j].v.first∧X[j].v.first<n))∧(X[j].v.next= -1∨((j:Int)<X[j].v.next∧X[j].v.next<n)):=fun j hj=>by
       have h1:((Fo.cons x0 k0 .nil).flat (-1) 0)[j]? =some X[j].model:=by rw[hR.flat,List.getElem?_map,List.getElem?_eq_getElem hj];rfl
       have h2:=z9r _ _ _ _ _ h1;have h3:(Fo.cons x0 k0 .nil).size=n:=by rw[←Fo.flat_len _ (-1) 0,hR.flat,List.length_map,hla]
       rw[h3,Nat.zero_add,Nat.zero_add] at h2;exact h2
      have hn4:n≤4096:=by have:=hR.len;rw[List.length_map,hla] at this;exact this
      have hqX:q<X.length:=by omega
      have hk:z9s (X.map (·.model)) (q:Int)=z97 (X.map (·.model)) (n+1) X[q].v.first:=by
       unfold z9s
       rw[if_neg (by
        rintro(e|e|e)
        · omega
        · rw[List.length_map,hla] at e;omega
        · rw[hc] at e;cases e),List.length_map,hla,Int.toNat_natCast,List.getElem?_map,List.getElem?_eq_getElem hqX]
       rfl
      rw[hk];obtain⟨R,hR2⟩:∃R,z97 (X.map (·.model)) (n+1) X[q].v.first=R:=⟨_,rfl⟩
      rw[hR2];have HCELL:=hide (fun(W:World) (f:Fr (fun _=>False) w W) (j:Nat) (hj:j<X.length)=>show ∃g off,A=some ⟨g,off,none⟩∧W.cell? ⟨g,off+j*7+4,none⟩=some (.int .i64 X[j].v.first)∧W.cell? ⟨g,off+j*7+5,none⟩=some (.int .i64 X[j].v.next) from by obtain⟨g,off,cp,hv, -, -, -,hc⟩:=(hrd.fr f (fun k hk=>⟨hS k hk,fun h=>h⟩)).rd.at_ (i:=j) (by rw[List.length_map];exact hj);simp only[Value.slice.injEq] at hv;obtain⟨rfl, -, -⟩:=hv;have c4:=hc 4 (by decide);have c5:=hc 5 (by decide);rw[List.getElem_map] at c4 c5;exact⟨g,off,rfl,by rw[Nat.add_assoc];exact c4,by rw[Nat.add_assoc];exact c5⟩);obtain⟨g,off,rfl, -, -⟩:=HCELL.out w (Fr.refl _ _) q hqX;have HC2:=hide (fun(W:World) (f:Fr (fun _=>False) w W) (j:Nat) (hj:j<X.length)=>show W.cell? ⟨g,off+j*7+4,none⟩=some (.int .i64 X[j].v.first)∧W.cell? ⟨g,off+j*7+5,none⟩=some (.int .i64 X[j].v.next) from by obtain⟨g2,off2,he,h1,h2⟩:=HCELL.out W f j hj;simp only[Option.some.injEq,Addr.mk.injEq] at he;obtain⟨rfl,rfl, -⟩:=he;exact⟨h1,h2⟩);have HLK:=hide hlk;have HLA:=hide hla;have HR2:=hide hR2;clear HCELL hk hnone hst hrd hS hz hla fa hb0 hc hR hlk hR2;have hfst:=(HLK.out q hqX).1;generalize hff:X[q].v.first=ff at*
      go_enter Tryz.func18,Tryz.ntmps18;go_wp2_with (go_at_call 13;refine HCK.out.mono ?_;rintro e w1 ⟨rfl,f1⟩;have F1:=hide (FA.out.trans f1);have s1:=HBX.out w1 f1;have s2:=(HC2.out w1 F1.out q hqX).1;rw[hff] at s2;have HS1:=hide f1);have HF2:=hide F1.out.size
      have hff0:(ff= -1∨(0≤ff∧ff<n)):=by
       rcases hfst with h|h
       · exact .inl h
       · right;omega
      clear s1 s2;go_loopw [5,6] (fun ov vv wr=>∃(v:Int) (B:Option Addr) (d m:Nat) (o:Option Nat) (l:List Int) (f:Nat),ov=.slice B m d∧vv=.int .i64 v∧(v= -1∨(0≤v∧v<n))∧l.length≤5000 - f∧f≤5000∧Hid (v= -1∨n<v+f)∧Hid (Own intT wr 3 (.slice B m d) o l)∧Hid (∀k,o=some k→w1.heap.size≤k)∧Hid (Fr (fun _=>False) w1 wr)∧Hid (l++z97 (X.map (·.model)) f v=R)) (fun _ vv _=>mW n vv)
      case atStart=>exact⟨ff,none,0,0,none,[],n+1,rfl,rfl,hff0,by simp,by omega,hide (by rcases hff0 with h|h;exact .inl h;right;omega),hide (Own.nil_ _ _ _ _),hide (fun k hk=>(by cases hk)),hide (Fr.refl _ _),hide (by rw[List.nil_append];exact HR2.out)⟩
      case round=>
       obtain⟨v,B,d,m,o,l,f,rfl,rfl,hv,hll,hf5,hfu,hown,hnew,hfr,hch⟩:=hrel;have t1:=HBX.out wr (HS1.out.trans hfr.out);rcases hv with rfl|⟨hv0,hvn⟩
       · have hl:l=R:=by
          rw[←hch.out]
          cases f with
          |zero=>rw[z97,List.append_nil]
          |succ f=>rw[z97,if_pos (by omega),List.append_nil]
         subst hl;go_wp2_with fail;go_returns;exact⟨B,m,d,o,rfl,hown.out,fun k hk=>Nat.le_trans F1.out.size (hnew.out k hk),F1.out.trans hfr.out⟩
       · obtain⟨j,rfl⟩:∃j:Nat,v=(j:Int):=⟨v.toNat,by omega⟩;have hjX:j<X.length:=by rw[HLA.out];omega
         have hj1:((j:Int)== -1)=false:=by rw[beq_eq_false_iff_ne];omega
         obtain⟨f,rfl⟩:∃g,f=g+1:=⟨f - 1,by have:=hfu.out;omega⟩;have hnx:=(HLK.out j hjX).2;have hch2:l++(j:Int)::z97 (X.map (·.model)) f X[j].v.next=R:=by rw[←hch.out,z97,if_neg (by omega),Int.toNat_natCast,List.getElem?_map,List.getElem?_eq_getElem hjX];rfl
         have HN:=hide (fun(W:World) (f:Fr (fun _=>False) w W)=>(HC2.out W f j hjX).2);generalize hnn:X[j].v.next=nx at*;have HLL:=hide hll;have hml:m=l.length:=by obtain⟨A',c',hv2, -, -⟩:=hown.out.form;simp only[Value.slice.injEq] at hv2;exact hv2.2.1
         have HML:=hide hml;have HCH:=hide hch2;clear hml hch2 hjX hch hnn
         go_wp2_with (at_builtin;refine z0d rfl rfl z88 (by rfl) (by rfl) (hown.out.fr (Fr.alloc (Fr.refl (fun _=>False) _) _) (fun _ _ h=>h)) (zk9 wr wr rfl (j:Int)) (by simp only[List.length_cons,List.length_nil];omega) ?_;intro B3 d3 w3 o3 m3 g3 n3;have M3:=hide m3;have G3:=hide (show Fr (fun _=>False) w1 w3 from(hfr.out.alloc _).then_ g3 (fun k h1 h2=>by have:=hnew.out k h2;omega));have N3:=hide (show ∀k,o3=some k→w1.heap.size≤k from fun k hk=>by
          rcases n3 k hk with h|h
          · exact hnew.out k h
          · have:=hfr.out.size;have h5:=h.1;simp at h5;omega);have u1:=HBX.out w3 (HS1.out.trans G3.out);have u2:=HN.out w3 (F1.out.trans G3.out);clear m3 g3 n3)
         have hm2:mW n (.int .i64 nx)<mW n (.int .i64 (j:Int)):=by
          rcases hnx with rfl|⟨h1,h2⟩
          · exact zf0 (n:=n) (j:=j) (m:=j+1) (b:=true) (by omega) (by omega)
          · obtain⟨q2,rfl⟩:∃q2:Nat,nx=(q2:Int):=⟨nx.toNat,by omega⟩;exact zf0 (n:=n) (j:=j) (m:=q2) (b:=false) (by omega) (by omega)
         exact⟨⟨nx,B3,d3,_,o3,l++[(j:Int)],f,rfl,rfl,by rcases hnx with h|h;exact .inl h;right;omega,by rw[List.length_append,List.length_cons,List.length_nil];omega,by omega,hide (by have:=hfu.out;rcases hnx with h|h;exact .inl h;right;omega),M3,N3,G3,hide (by rw[←HCH.out];simp)⟩,hm2⟩
end Go.Proofs.YtnlacmnoocigiaaGreatDoor
namespace Go.Proofs.YtnlacmnoocigiaaGreatDoor
theorem ztw {x y:NodeM}{p:Int}{n:Nat}{k r k' r':Fo}(h:zdl (Fo.mk x p n k r)=zdl (Fo.mk y p n k' r')):
 x.name=y.name∧x.attrs=y.attrs∧x.text=y.text∧k.isNil=k'.isNil∧r.isNil=r'.isNil∧(r.isNil=false→k.size=k'.size):=by
 have h1:=congrArg NodeM.name h;have h2:=congrArg NodeM.attrs h;have h3:=congrArg NodeM.text h;have h4:=congrArg NodeM.first h
 have h5:=congrArg NodeM.next h;simp only[zdl,Fo.mk] at h1 h2 h3 h4 h5;refine⟨h1,h2,h3, ?_, ?_,fun hr=> ?_⟩
 · cases hk:k.isNil<;>cases hk':k'.isNil<;>rw[hk,hk'] at h4<;>simp at h4⊢<;>omega
 · cases hk:r.isNil<;>cases hk':r'.isNil<;>rw[hk,hk'] at h5<;>simp at h5⊢<;>omega
 · rw[hr] at h5
   cases hk':r'.isNil with
   |true=>rw[hk'] at h5;simp at h5;omega
   |false=>rw[hk'] at h5;simp at h5;omega
theorem flat_nil {F:Fo}{p:Int}{n:Nat}(h:(F.flat p n).map zdl=[]):F=.nil:=by
 cases F with
 |nil=>rfl
 |cons x k r=>cases h
theorem zqp :∀(F G:Fo) (p:Int) (n:Nat),(F.flat p n).map zdl=(G.flat p n).map zdl→F.wr=G.wr
 |.nil,G,p,n,h=>by rw[flat_nil (F:=G) h.symm]
 |.cons x k r,.nil,p,n,h=>by cases h
 |.cons x k r,.cons y k' r',p,n,h=>by
  have hl:=congrArg List.length h;rw[List.length_map,List.length_map,Fo.flat_len,Fo.flat_len,Fo.size,Fo.size] at hl;rw[Fo.flat,Fo.flat,List.map_cons,List.map_cons,List.cons.injEq,List.map_append,List.map_append] at h;obtain⟨h1,h2⟩:=h;obtain⟨a1,a2,a3,a4,a5,a6⟩:=ztw h1
  have hk:k.size=k'.size:=by
   cases hr:r.isNil with
   |false=>exact a6 hr
   |true=>
    rw[hr] at a5;have e1:r=.nil:=by cases r with|nil=>rfl|cons _ _ _=>cases hr
    have e2:r'=.nil:=by cases r' with|nil=>rfl|cons _ _ _=>cases a5
    rw[e1,e2] at hl;omega
  have h3:=List.append_inj h2 (by rw[List.length_map,List.length_map,Fo.flat_len,Fo.flat_len,hk]);rw[hk] at h3;have ik:=zqp k k' _ _ h3.1;have ir:=zqp r r' _ _ h3.2;have en:nmL x=nmL y:=by unfold nmL;rw[a1]
  have ea:atL x=atL y:=by unfold atL;rw[a2]
  have et:txL x=txL y:=by unfold txL;rw[a3]
  have eb:bare x k↔bare y k':=by unfold bare;rw[a3,a4]
  rw[Fo.wr,Fo.wr,en,ea,et,ik,ir];by_cases hb:bare x k
  · rw[if_pos hb,if_pos (eb.1 hb)]
  · rw[if_neg hb,if_neg (fun h=>hb (eb.2 h))]
end Go.Proofs.YtnlacmnoocigiaaGreatDoor
namespace Go.Proofs.YtnlacmnoocigiaaGreatDoor
open Go.RowKit Go.Lib
attribute [local go_sem ↓] Go.wp_at_zero Go.wp_at_succ
def Tr (N:List NodeM)(W:World)(A:Option Addr)(n c:Nat):Prop:=∃X S,NodesRd W S (.slice A n c) X∧(∀k,S k→k<W.heap.size)∧X.map (·.model)=N
theorem Tr.fr {N:List NodeM}{W W':World}{A:Option Addr}{n c:Nat}(h:Tr N W A n c)(f:Fr (fun _=>False) W W'):Tr N W' A n c:=by obtain⟨X,S,h1,h2,h3⟩:=h;exact⟨X,S,h1.fr f (fun k hk=>⟨h2 k hk,fun h=>h⟩),fun k hk=>Nat.lt_of_lt_of_le (h2 k hk) f.size,h3⟩
theorem Tr.len {N:List NodeM}{W:World}{A:Option Addr}{n c:Nat}(h:Tr N W A n c):N.length=n:=by obtain⟨X,S,h1,h2,h3⟩:=h;have:=h1.rd.lenT.1;rw[List.length_map] at this;rw[←h3,List.length_map,this]
theorem ztx {w:World}{base:Nat}{A:Option Addr}{n c:Nat}{o:Option Nat}{X:List NodeX}{N:List NodeM}(h:NodeL w base (.slice A n c) o X)(hm:X.map (·.model)=N):Tr N w A n c:=by refine⟨X,fun k=>k<w.heap.size,⟨h.own.rd.mono (fun k hk=>(h.new k hk).2),fun x hx=> ?_⟩,fun k hk=>hk,hm⟩;exact(h.ok x hx).2.rd.mono (fun k hk=>(h.newa x hx k hk).2.1)
theorem zcb {X:List NodeX}{N:List NodeM}{P:NodeM→Prop}(hm:X.map (·.model)=N)(h:∀x∈N,P x):∀x∈X,P x.model:=fun x hx=>h _ (by rw[←hm];exact List.mem_map_of_mem (f:=fun x:NodeX=>x.model) hx)
theorem zwq {N:List NodeM}{W:World}{A:Option Addr}{n c:Nat}(hst:St W)(h:Tr N W A n c)(hz:∀x∈N,zc2 x):Calls Tryz.prog 13 #[.agg #[.slice A n c]] W fun e w'=>e=.returned (.int .i64 (okE (z3y N)))∧Fr (fun _=>False) W w':=by obtain⟨X,S,h1,h2,h3⟩:=h;rw[←h3];exact zca W hst A n c X S h1 h2 (zcb h3 hz)
theorem zyc {N:List NodeM}{W:World}{A:Option Addr}{n c:Nat}(h:Tr N W A n c)(i:Int)(nm:ByteArray):Calls Tryz.prog 17 #[.agg #[.slice A n c],.int .i64 i,.string nm] W fun e w'=>e=.returned (.tuple #[.string (getM N i nm).1,.bool (getM N i nm).2])∧Fr (fun _=>False) W w':=by obtain⟨X,S,h1,h2,h3⟩:=h;rw[←h3];exact zwo W A n c X S i nm h1 h2
theorem zxu {N:List NodeM}{W:World}{A:Option Addr}{n c:Nat}(hst:St W)(h:Tr N W A n c)(i:Int)(hz:∀x∈N,zc2 x):Calls Tryz.prog 18 #[.agg #[.slice A n c],.int .i64 i] W (zf1 (z9s N i) W):=by obtain⟨X,S,h1,h2,h3⟩:=h;rw[←h3];exact ztv W hst A n c X S i h1 h2 (zcb h3 hz)
theorem zwr {N:List NodeM}{W:World}{A:Option Addr}{n c:Nat}(hst:St W)(h:Tr N W A n c)(hz:∀x∈N,zql x)(hl:∀t,z9q N t→t.length≤1000000000):
 Calls Tryz.prog 16 #[.agg #[.slice A n c]] W fun e w'=>((z3y N=false∧e=.returned (.tuple #[.string ⟨#[]⟩,.int .i64 50]))∨(z3y N=true∧∃t,z9q N t∧e=.returned (.tuple #[.string ⟨t.toArray⟩,.int .i64 0])))∧Fr (fun _=>False) W w':=by
 obtain⟨X,S,h1,h2,h3⟩:=h;subst h3;exact zmg W hst A n c X S h1 h2 (zcb rfl hz) hl
theorem zh9 {N:List NodeM}{F:Fo}{t:List UInt8}(h:z9q N t)(hf:F.flat (-1) 0=N):t=F.wr:=by obtain⟨x,k,hR,rfl⟩:=h;exact zqp _ _ (-1) 0 (by rw[hR.flat,hf])
def nA :NodeM:=⟨⟨#[97]⟩,[(⟨#[120]⟩,⟨#[50]⟩),(⟨#[121]⟩,⟨#[49]⟩)],⟨#[116]⟩, -1,1, -1,0⟩
def nB1 :NodeM:=⟨⟨#[98]⟩,[],⟨#[]⟩,0, -1, -1,15⟩
def fA :Fo:=.cons nA (.cons nB1 .nil .nil) .nil
def sA :List UInt8:=[60,97,32,120,61,34,50,34,32,121,61,34,49,34,62,116,60,98,47,62,60,47,97,62]
theorem zqq :fA.flat (-1) 0=[nA,nB1]:=by rfl
theorem zxv :fA.wr=sA:=by decide+kernel
theorem wt1 :z2v [60,97,32,121,61,34,49,34,32,120,61,34,50,34,62,60,98,47,62,116,60,47,97,62]=([nA,nB1],0,0):=by kernel_rfl
theorem wt2 :z2v [60,97,62,60,47,98,62]=([],3,50):=by kernel_rfl
theorem wt3 :z2v [60,97,47,62,60,98,47,62]=([],4,50):=by kernel_rfl
theorem wc1 :z3y [nA,nB1]=true:=by kernel_rfl
theorem wg1 :getM [nA,nB1] 0 ⟨#[121]⟩=(⟨#[49]⟩,true):=by kernel_rfl
theorem wk1 :z9s [nA,nB1] 0=[1]:=by kernel_rfl
theorem wz1 :∀x∈[nA,nB1],zql x∧zc2 x:=by
 intro x hx;simp only[List.mem_cons,List.not_mem_nil,or_false] at hx;rcases hx with rfl|rfl
 · refine⟨⟨by decide,by decide, ?_⟩,⟨by decide,by decide, ?_⟩⟩
   all_goals
    intro _ a ha;simp only[nA,List.mem_cons,List.not_mem_nil,or_false] at ha;rcases ha with rfl|rfl<;>exact⟨by decide,by decide⟩
 · exact⟨⟨by decide,by decide,fun _ a ha=>(by cases ha)⟩,⟨by decide,by decide,fun _ a ha=>(by cases ha)⟩⟩
theorem tp1 (w:World)(hst:St w):Calls Tryz.prog 7 #[.string ⟨#[60,97,32,121,61,34,49,34,32,120,61,34,50,34,62,60,98,47,62,116,60,47,97,62]⟩] w fun e w'=>∃A c,e=.returned (.tuple #[.agg #[.slice A 2 c],.int .i64 0,.int .i64 0])∧Hid (Tr [nA,nB1] w' A 2 c)∧Fr (fun _=>False) w w':=(z7j _ w hst (by decide)).mono fun e w' ⟨A,c,o,X,h1,h2,h3,h4⟩=>by rw[wt1] at h1 h3;have hl:=congrArg List.length h3;rw[List.length_map] at hl;have hl:X.length=2:=hl;rw[hl] at h1 h2;exact⟨A,c,h1,hide (ztx h2 h3),h4⟩
theorem tp2 (w:World)(hst:St w):Calls Tryz.prog 7 #[.string ⟨#[60,97,62,60,47,98,62]⟩] w fun e w'=>∃A c,e=.returned (.tuple #[.agg #[.slice A 0 c],.int .i64 3,.int .i64 50])∧Fr (fun _=>False) w w':=(z7j _ w hst (by decide)).mono fun e w' ⟨A,c,o,X,h1,h2,h3,h4⟩=>by rw[wt2] at h1 h3;have hl:=congrArg List.length h3;rw[List.length_map] at hl;rw[show X.length=0 from hl] at h1;exact⟨A,c,h1,h4⟩
theorem tp3 (w:World)(hst:St w):Calls Tryz.prog 7 #[.string ⟨#[60,97,47,62,60,98,47,62]⟩] w fun e w'=>∃A c,e=.returned (.tuple #[.agg #[.slice A 0 c],.int .i64 4,.int .i64 50])∧Fr (fun _=>False) w w':=(z7j _ w hst (by decide)).mono fun e w' ⟨A,c,o,X,h1,h2,h3,h4⟩=>by rw[wt3] at h1 h3;have hl:=congrArg List.length h3;rw[List.length_map] at hl;rw[show X.length=0 from hl] at h1;exact⟨A,c,h1,h4⟩
theorem tw1 {A:Option Addr}{c:Nat}(w:World)(hst:St w)(h:Tr [nA,nB1] w A 2 c):Calls Tryz.prog 16 #[.agg #[.slice A 2 c]] w fun e w'=>e=.returned (.tuple #[.string ⟨#[60,97,32,120,61,34,50,34,32,121,61,34,49,34,62,116,60,98,47,62,60,47,97,62]⟩,.int .i64 0])∧Fr (fun _=>False) w w':=
 (zwr hst h (fun x hx=>(wz1 x hx).1) (fun t ht=>by rw[zh9 ht zqq,zxv];decide)).mono fun e w' ⟨h1,h2⟩=>⟨by
  rcases h1 with ⟨h1, -⟩|⟨-,t,ht,he⟩
  · rw[wc1] at h1;cases h1
  · rw[he,zh9 ht zqq,zxv];rfl,h2⟩
theorem tg1 {A:Option Addr}{c:Nat}(w:World)(h:Tr [nA,nB1] w A 2 c):Calls Tryz.prog 17 #[.agg #[.slice A 2 c],.int .i64 0,.string ⟨#[121]⟩] w fun e w'=>e=.returned (.tuple #[.string ⟨#[49]⟩,.bool true])∧Fr (fun _=>False) w w':=by have:=zyc h 0 ⟨#[121]⟩;rw[wg1] at this;exact this
theorem tk1_ {A:Option Addr}{c:Nat}(w:World)(hst:St w)(h:Tr [nA,nB1] w A 2 c):Calls Tryz.prog 18 #[.agg #[.slice A 2 c],.int .i64 0] w fun e w'=>∃g off d,e=.returned (.slice (some ⟨g,off,none⟩) 1 d)∧Fr (fun _=>False) w w'∧Hid (∀W,Fr (fun _=>False) w' W→W.cell? ⟨g,off,none⟩=some (.int .i64 1)):=by have:=zxu hst h 0 (fun x hx=>(wz1 x hx).2);rw[wk1] at this;refine this.mono fun e w' ⟨B,m,d,o,h1,h2,h3,h4⟩=> ?_;obtain⟨g,off,cp,hv, -, -,hg,hc⟩:=h2.rd.at_ (i:=0) (by decide);simp only[Value.slice.injEq] at hv;obtain⟨rfl,rfl,rfl⟩:=hv;have c0:=hc 0 (by decide);rw[Nat.zero_mul,Nat.add_zero] at c0;refine⟨g,off,d,h1,h4,hide fun W f=>(f.cell (World.block_lt_of_cell? w' _ c0) (fun h=>h)).trans c0⟩
theorem tc1 {A:Option Addr}{c:Nat}(w:World)(hst:St w)(h:Tr [nA,nB1] w A 2 c):Calls Tryz.prog 13 #[.agg #[.slice A 2 c]] w fun e w'=>e=.returned (.int .i64 0)∧Fr (fun _=>False) w w':=by have:=zwq hst h (fun x hx=>(wz1 x hx).2);rw[wc1] at this;exact this
set_option maxRecDepth 100000 in
set_option maxHeartbeats 8000000 in
theorem zdm (w:World)(hst:St w):Calls Tryz.prog 5 #[] w fun e w'=>e=.returned (.bool true)∧Fr (fun _=>False) w w':=by
 have HST:=hide (fun(W:World) (f:Fr (fun _=>False) w W)=>hst.same f);clear hst;go_enter Tryz.func5,Tryz.ntmps5;go_wp2_with (go_at_call 7;go_fit (tp1 w (HST.out _ (Fr.refl _ _)));rintro e w1 ⟨A1,c1,rfl,T1,f1⟩);have hb0:=heap_alloc_new w1 (.cells #[.slice A1 2 c1] 31);have HBX:=hide (fun(W:World) (f:Fr (fun _=>False) (w1.alloc (.cells #[.slice A1 2 c1] 31)) W)=>show W.cell? ⟨w1.heap.size,0,none⟩=some (.slice A1 2 c1) from by rw[f.cell (by simp) (fun h=>h),cell_of_row _ _ _ _ _ _ hb0];rfl);have F0:=hide (show Fr (fun _=>False) w (w1.alloc (.cells #[.slice A1 2 c1] 31)) from f1.alloc _);have HT:=hide (T1.out.fr (Fr.alloc (Fr.refl (fun _=>False) w1) (.cells #[.slice A1 2 c1] 31)));have b0:=HBX.out _ (Fr.refl _ _);clear hb0;generalize (w1.alloc (.cells #[.slice A1 2 c1] 31))=W1 at*;generalize w1.heap.size=q at*
 go_wp2_with (first
  |(go_at_call 16;refine(tw1 _ (HST.out _ F0.out) HT.out).mono ?_;rintro e w2 ⟨rfl,f2⟩)
  |(go_at_call 7;go_fit (tp2 w2 (HST.out _ (F0.out.trans f2)));rintro e w3 ⟨A2,c2,rfl,f3⟩;have F3:=hide (f2.trans f3)))
 have F4:=hide (F3.out.alloc (.cells #[.slice A2 0 c2] 31));generalize (w3.alloc (.cells #[.slice A2 0 c2] 31))=W4 at*;go_wp2_with (go_at_call 7;go_fit (tp3 W4 (HST.out _ (F0.out.trans F4.out)));rintro e w5 ⟨A3,c3,rfl,f5⟩;have F5:=hide (F4.out.trans f5);have b6:=HBX.out _ (F5.out.alloc (.cells #[.slice A3 0 c3] 31)));have F6:=hide (F5.out.alloc (.cells #[.slice A3 0 c3] 31));clear b6;generalize (w5.alloc (.cells #[.slice A3 0 c3] 31))=W6 at*
 go_wp2_with (first
  |(go_at_call 17;refine(tg1 _ (HT.out.fr F6.out)).mono ?_;rintro e w7 ⟨rfl,f7⟩;have F7:=hide (F6.out.trans f7);have b7:=HBX.out _ F7.out)
  |(go_at_call 18;refine(tk1_ _ (HST.out _ (F0.out.trans F7.out)) (HT.out.fr F7.out)).mono ?_;rintro e w8 ⟨gk,ok_,dk,rfl,f8,L8⟩;have F8:=hide (F7.out.trans f8);have b8:=HBX.out _ F8.out;have k8:=L8.out w8 (Fr.refl _ _))
  |(go_at_call 13;refine(tc1 _ (HST.out _ (F0.out.trans F8.out)) (HT.out.fr F8.out)).mono ?_;rintro e w9 ⟨rfl,f9⟩))
 go_ret;exact⟨rfl,F0.out.trans (F8.out.trans f9)⟩
end Go.Proofs.YtnlacmnoocigiaaGreatDoor
