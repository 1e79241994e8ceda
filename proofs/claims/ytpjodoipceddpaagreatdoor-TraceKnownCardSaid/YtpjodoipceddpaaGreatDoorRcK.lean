/- Traces: what is put. -/
import Derived.Test.YtpjodoipceddpaaGreatDoorRecO
import Derived.Test.YtpjodoipceddpaaGreatDoorRecYm
import Derived.Test.YtpjodoipceddpaaGreatDoorRcI
import Derived.Test.YtpjodoipceddpaaGreatDoorBldSm
import Derived.WalkKit
import Derived.RowKitTokens
namespace Go.Proofs.YtpjodoipceddpaaGreatDoor.Aw
open Go.RowKit Go.Lib Rc
set_option maxHeartbeats 8000000
set_option maxRecDepth 100000
def putA (acc:T):List RecM→T×Int
 |[]=>(acc,0)
 |r::X=>if mayB nmB r then putA (acc++(textM r++[10])) X else([],2)
def Shr (r:RecM):Prop:=r.list.length≤1000∧r.name.length≤1000∧In64 r
theorem words_len {r:RecM} (hm:mayB nmB r=true) (h:Shr r):(wordsM r).length≤1003∧∀x∈wordsM r,x.length≤1000:=by
 obtain⟨hl,hn,h64⟩:=h
 have hop:∀o:Nat,(Rc.opW o).length≤1000:=fun o=>by
  unfold Rc.opW
  split<;>simp
 have hit:∀n:Int,In1 n→(itoa n).length≤1000:=fun n hn=>by
  have:=itoa_len hn.1 hn.2
  omega
 have hmap:∀l:List Int,Fit l→∀x∈l.map itoa,x.length≤1000:=fun l hf x hx=>by
  obtain⟨n,hn,rfl⟩:=List.mem_map.1 hx
  exact hit n (hf n hn)
 cases may_of hm with
 |call n a hnm=>
  unfold wordsM
  simp only[if_true,List.getD_cons_zero]
  refine⟨by split<;>simp,fun x hx=> ?_⟩
  split at hx
  · simp only[List.mem_cons,List.not_mem_nil,or_false] at hx
    rcases hx with rfl|rfl|rfl|rfl
    · exact hop 8
    · decide
    · exact hn
    · exact hit a h64.a
  · simp only[List.mem_cons,List.not_mem_nil,or_false] at hx
    rcases hx with rfl|rfl|rfl
    · exact hop 8
    · decide
    · exact hit 0 ⟨by decide,by decide⟩
 |event k a hk hpl=>
  unfold wordsM
  simp only[if_true,List.getD_cons_zero]
  rw[if_neg (show ¬(([]:T)≠[]) by simp)]
  refine⟨by simp,fun x hx=> ?_⟩
  simp only[List.mem_cons,List.not_mem_nil,or_false] at hx
  rcases hx with rfl|rfl|rfl
  · exact hop 8
  · rcases hk with rfl|rfl<;>decide
  · exact hit a (place_fit hpl)
 |plain o a l ho hf=>
  simp only at hl
  unfold wordsM
  simp only
  rw[if_neg (by omega),if_neg (by omega),if_neg (by omega)]
  refine⟨by simp;omega,fun x hx=> ?_⟩
  simp only[List.mem_cons] at hx
  rcases hx with rfl|rfl|hx
  · exact hop o
  · exact hit a (hf a List.mem_cons_self)
  · exact hmap l (fun n hn=>hf n (List.mem_cons_of_mem _ hn)) x hx
 |list o l ho hf=>
  simp only at hl
  unfold wordsM
  simp only
  rw[if_neg (by omega),if_pos ho]
  refine⟨by simp;omega,fun x hx=> ?_⟩
  rw[List.mem_cons] at hx
  rcases hx with rfl|hx
  · exact hop o
  · exact hmap l hf x hx
 |bare o ho=>
  unfold wordsM
  simp only
  rw[if_neg (by omega),if_neg (by omega),if_pos ho]
  refine⟨by simp,fun x hx=> ?_⟩
  rw[List.mem_singleton] at hx
  rw[hx]
  exact hop o
theorem words_le {r:RecM} (hm:mayB nmB r=true) (h:Shr r):(textM r).length≤1100000:=by
 obtain⟨h1,h2⟩:=words_len hm h
 have h3:(join (wordsM r) [32]).length≤1001*(wordsM r).length:=by
  generalize wordsM r=W at h1 h2
  cases W with
  |nil=>simp[join_nil]
  |cons x W=>
   have:=lens_le (x::W) h2
   rw[join_length,List.length_singleton]
   rw[List.length_cons] at this⊢
   omega
 unfold textM
 omega
theorem rec_cells {S:Nat→Prop} {w:World} {X:List RecM} {p:Nat} {r:RecM} {u:Value} (h1:VC S w (.ro (cRl X)) u) (hr:X[p]? =some r):∃g o c v4,u=.slice (some ⟨g,o,none⟩) X.length c∧S g∧VC S w (.ro (r.list.map eI)) v4∧v4.oneCell'=true∧
 ∀W:World,W.heap[g]? =w.heap[g]? →W.cell? ⟨g,o+p*5,none⟩=some (.int .u8 (r.op:Int))∧W.cell? ⟨g,o+p*5+1,none⟩=some (.int .i64 r.at_)∧W.cell? ⟨g,o+p*5+2,none⟩=some (.string (bt r.name))∧W.cell? ⟨g,o+p*5+3,none⟩=some (.int .i64 r.arg)∧W.cell? ⟨g,o+p*5+4,none⟩=some v4:=by
 have hp:p<(cRl X).length:=by rw[cRl_len];exact(List.getElem?_eq_some_iff.1 hr).1
 obtain⟨g,o,c,rfl,hrp⟩:=ro_elem h1 hp
 rw[cRl_at hr] at hrp
 unfold cR at hrp
 cases hrp with
 |rp _ _ _ vs hS hcell hl hone hvv=>
  match vs,hl with
  |[v0,v1,v2,v3,v4],_=>
   have e0:=(hvv 0 _ v0 rfl rfl).sc_inv
   have e1:=(hvv 1 _ v1 rfl rfl).sc_inv
   have e2:=(hvv 2 _ v2 rfl rfl).sc_inv
   have e3:=(hvv 3 _ v3 rfl rfl).sc_inv
   subst e0 e1 e2 e3
   refine⟨g,o,c,v4,by rw[cRl_len],hS,hvv 4 _ v4 rfl rfl,hone v4 (by simp),fun W hW=> ?_⟩
   have hc:∀(j:Nat) (a:Addr),a=⟨g,o+p*5+j,none⟩→W.cell? a=w.cell? a:=fun j a ha=>World.cell?_of_block (by rw[ha];exact hW)
   exact⟨(hc 0 _ rfl).trans (hcell 0 _ rfl),(hc 1 _ rfl).trans (hcell 1 _ rfl),(hc 2 _ rfl).trans (hcell 2 _ rfl),(hc 3 _ rfl).trans (hcell 3 _ rfl),(hc 4 _ rfl).trans (hcell 4 _ rfl)⟩
theorem con_calls {P:Program} {w:World} {f:FuncId} {args:List AV} {u:Value} {S:Nat→Prop} {vs:List Value} (h:ConAt P w f args (.sc u) []) (hS:∀k,S k→k<w.heap.size) (hl:args.length=vs.length) (hv:∀(i:Nat) x v,args[i]? =some x→vs[i]? =some v→VC S w x v):
 Calls P f vs.toArray w fun e w'=>e=.returned u∧Fr (fun _=>False) w w':=
 (h S vs hS hl hv).mono fun e w' ⟨v,I,he,hm,hv⟩=>⟨by rw[he,hv.sc_inv],hm.fr⟩
theorem rec_vc {S:Nat→Prop} {W:World} {r:RecM} {v4:Value} (h:VC S W (.ro (r.list.map eI)) v4) (h1:v4.oneCell'=true):∀(i:Nat) x v,(eR r)[i]? =some x→[Value.agg #[.int .u8 (r.op:Int),.int .i64 r.at_,.string (bt r.name),.int .i64 r.arg,v4]][i]? =some v→VC S W x v:=by
 intro i x v hx hv
 match i with
 |0=>
  cases hx
  cases hv
  refine .agg (cR r) [.int .u8 (r.op:Int),.int .i64 r.at_,.string (bt r.name),.int .i64 r.arg,v4] rfl (fun v hv=> ?_) (fun j y z hy hz=> ?_)
  · simp only[List.mem_cons,List.not_mem_nil,or_false] at hv
    rcases hv with rfl|rfl|rfl|rfl|rfl<;>first|rfl|exact h1
  · unfold cR at hy
    match j with
    |0|1|2|3=>cases hy;cases hz;exact .sc _
    |4=>cases hy;cases hz;exact h
    |j+5=>simp at hy
 |i+1=>simp[eR] at hx
theorem ro_one {S:Nat→Prop} {w:World} {l:List (List AV)} {v:Value} (h:VC S w (.ro l) v):∃A c,v=.slice A l.length c:=by
 cases h with
 |ro _ sz hz cs u hrd hl _ _=>
  obtain⟨A,c,hv, -, -⟩:=hrd.form
  exact⟨A,c,by rw[hv,hl]⟩
theorem put_any (X:List RecM) (hX:X.length≤1000) (hr:∀r∈X,Shr r) (w:World) (hst:TrSt w) (S:Nat→Prop) (u:Value) (hS:∀k,S k→k<w.heap.size) (hu:VC S w (.ro (cRl X)) u):
 Calls Tryz.prog 13 #[u] w fun e w'=>e=.returned (.tuple #[.string (bt (putA [] X).1),.int .i64 (putA [] X).2])∧Fr (fun _=>False) w w':=by
 obtain⟨R,hR⟩:∃R,putA [] X=R:=⟨_,rfl⟩
 rw[hR]
 obtain⟨A,c,rfl⟩:=ro_one hu
 rw[cRl_len] at hu⊢
 have HU:=hide hu
 clear hu
 have HST:=hide hst
 have HR:=hide hR
 clear hst hR
 obtain⟨n,hn⟩:∃n,X.length=n:=⟨_,rfl⟩
 rw[hn] at HU⊢
 go_enter Tryz.func13,Tryz.ntmps13
 go_wp2_with fail
 go_loopw [9] (fun iv wr=>∃p:Nat,iv=.int .i64 p∧p≤n∧Hid (∃acc,Bd wr w.heap.size acc∧putA acc (X.drop p)=R∧acc.length≤1100001*p)∧Hid (Fr (fun _=>False) w wr)) (fun iv _=>n - (Go.RowKit.intOf iv).toNat)
 case atStart=>exact⟨0,rfl,Nat.zero_le _,hide ⟨[],Bd.fresh w,HR.out,Nat.zero_le _⟩,hide (Fr.alloc (Fr.refl _ _) _)⟩
 case round=>
  obtain⟨p,rfl,hpn,hacc,hfr⟩:=hrel
  obtain⟨acc,hB,hput,hal⟩:=hacc.out
  clear hacc
  by_cases hps:p<n
  · have hpi:(p:Int)<(n:Int):=by omega
    obtain⟨r,hrx⟩:∃r,X[p]? =some r:=⟨_,List.getElem?_eq_getElem (by omega)⟩
    have hu:=HU.out
    rw[←hn] at hu
    obtain⟨g,o,c',v4,hsl,hSg,hv4,h41,hld⟩:=rec_cells hu hrx
    rw[hn] at hsl
    cases hsl
    obtain⟨A4,c4,hv4e⟩:=ro_one hv4
    rw[List.length_map] at hv4e
    subst hv4e
    have hgl:=hS g hSg
    obtain⟨q0,q1,q2,q3,q4⟩:=hld wr (hfr.out.block g hgl (fun h=>h))
    have HV:=hide (fun(W:World) (f:Fr (fun _=>False) w W)=>rec_vc (S:=S) (W:=W) (r:=r) (v4:=.slice A4 r.list.length c4) (hv4.keep (fun k h=>h) (fun k h=>f.block k (hS k h) (fun h=>h))) h41)
    have HSS:=hide (fun(W:World) (f:Fr (fun _=>False) w W) k (h:S k)=>Nat.lt_of_lt_of_le (hS k h) f.size)
    have hshr:=hr r (List.mem_of_getElem? hrx)
    have HM:=hide (fun(W:World) (f:Fr (fun _=>False) w W)=>con_calls (may_con r (by have:=hshr.2.1;omega) W (HST.out.fr f)) (HSS.out W f) rfl (HV.out W f))
    have HB:=hide hB
    clear hu hld hv4 hB
    obtain⟨bm,hbm⟩:∃b,mayB nmB r=b:=⟨_,rfl⟩
    have HBM:=hide hbm
    rw[hbm] at HM
    clear hbm
    have hfa:∀{o:Obj},Fr (fun _=>False) w (wr.alloc o):=fun {o}=>Fr.alloc hfr.out o
    have hdrop:X.drop p=r::X.drop (p+1):=by
     rw[List.drop_eq_getElem_cons (by omega)]
     congr 1
     rw[List.getElem?_eq_getElem (by omega)] at hrx
     exact Option.some.inj hrx
    rw[hdrop,putA,HBM.out] at hput
    clear hdrop hrx
    cases bm with
    |false=>
     rw[if_neg (by simp)] at hput
     subst hput
     go_wp2_with (go_at_call 12;refine(HM.out _ hfa).mono ?_;rintro e w5 ⟨rfl,f5⟩)
     go_ret2
     exact⟨rfl,hfa.trans f5⟩
    |true=>
     rw[if_pos rfl] at hput
     have HL:=hide (fun(W:World) (f:Fr (fun _=>False) w W)=>con_calls (line_con r (may_of HBM.out) hshr.2.2 hshr.1 hshr.2.1 W (HST.out.fr f)) (HSS.out W f) rfl (HV.out W f))
     have HWL:=hide (words_le HBM.out hshr)
     have HBF:=hide (fun(W:World) (o:Obj) (f:Fr (fun _=>False) (wr.alloc o) W)=>HB.out.fr ((Fr.alloc (Fr.refl _ wr) o).trans f))
     have HPUT:=hide hput
     have HAL:=hide hal
     clear hput hal HB hshr
     go_wp2_with (first
      |(go_at_call 12;refine(HM.out _ hfa).mono ?_;rintro e w5 ⟨rfl,f5⟩
        have h5:=(f5.block wr.heap.size (lt_of_block (heap_alloc_new wr _)) (fun h=>h)).trans (heap_alloc_new wr _)
        have a0:=cell_of_row w5 wr.heap.size 0 _ _ (0,0) h5
        have a1:=cell_of_row w5 wr.heap.size 1 _ _ (0,0) h5
        have a2:=cell_of_row w5 wr.heap.size 2 _ _ (0,0) h5
        have a3:=cell_of_row w5 wr.heap.size 3 _ _ (0,0) h5
        have a4:=cell_of_row w5 wr.heap.size 4 _ _ (0,0) h5
        clear h5)
      |(go_at_call 24;refine(HL.out _ (hfa.trans f5)).mono ?_;rintro e w6 ⟨rfl,f6⟩
        have HB6:=hide (HBF.out _ _ (f5.trans f6)))
      |(go_at_call 31;refine(writeString_any w.heap.size acc _ _ HB6.out (by rw[size_bt,List.length_append];have:=HWL.out;have:=HAL.out;simp;omega)).mono ?_;rintro e w7 ⟨rfl,b7,g7, -⟩))
     go_roundw
     case rel=>
      refine⟨p+1,by go_num,by omega,hide ⟨_,b7, ?_, ?_⟩,hide (((hfa.trans f5).trans f6).of_below_new (Nat.le_refl _) g7)⟩
      · rw[list_bt]
        exact HPUT.out
      · have h1:=HWL.out
        have h2:=HAL.out
        rw[list_bt,List.length_append,List.length_append,List.length_singleton]
        omega
     case measure=>simp[Go.RowKit.intOf];omega
  · obtain rfl:p=n:=by omega
    rw[List.drop_of_length_le (by omega)] at hput
    have hput:(acc,(0:Int))=R:=hput
    subst hput
    have HB:=hide hB
    clear hB
    have hpi:¬(p:Int)<(p:Int):=by omega
    go_wp2_with (go_at_call 32;refine(bldString_any _ _ _ HB.out).mono ?_;rintro e w6 ⟨rfl,b6,g6⟩)
    go_ret2
    exact⟨rfl,hfr.out.of_below_new (Nat.le_refl _) g6⟩
end Go.Proofs.YtpjodoipceddpaaGreatDoor.Aw
