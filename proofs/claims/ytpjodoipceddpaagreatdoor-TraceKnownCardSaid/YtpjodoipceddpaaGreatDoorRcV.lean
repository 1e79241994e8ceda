/- Traces: the closed law TraceKnown: the other laws, of what stands in memory there. -/
import Derived.Test.YtpjodoipceddpaaGreatDoorRcU
import Derived.BigRegion
import Derived.Deep.RegionHeldLaw
namespace Go.Proofs.YtpjodoipceddpaaGreatDoor.Aw
open Go.RowKit Go.Lib Rc
set_option maxHeartbeats 8000000
set_option maxRecDepth 100000
def GG (w W:World):Prop:=TrS W∧Fr (fun _=>False) w W
theorem GG.alloc {w W:World} (h:GG w W) (o:Obj):GG w (W.alloc o):=⟨h.1.fr ((Fr.refl _ _).alloc o),h.2.alloc o⟩
theorem GG.drew {w W:World} (h:GG w W):GG w W.drew:=⟨h.1.fr (Fr.refl _ _).drew,h.2.drew⟩
theorem GG.next {w W W':World} (h:GG w W) (f:Fr (fun _=>False) W W'):GG w W':=⟨h.1.fr f,h.2.trans f⟩
def LstAt (W:World) (u:Value) (l:List Int):Prop:=VC (fun k=>k<W.heap.size) W (.ro (l.map eI)) u
theorem LstAt.fr {W W':World} {u:Value} {l:List Int} (h:LstAt W u l) (f:Fr (fun _=>False) W W'):LstAt W' u l:=
 VC.keep (fun k hk=>Nat.lt_of_lt_of_le hk f.size) (fun k hk=>f.block k hk (fun h=>h)) h
theorem LstAt.nil (W:World):LstAt W (.slice none 0 0) []:=.ro _ 1 (by decide) [] _ (Rd.nil_ _ _ _) rfl (fun i e h=>by simp at h) (fun i j e c x v h=>by simp at h)
theorem LstAt.rowAt {W:World} {g o n:Nat} {l:List Int} {cs:Array Value} {T:TypeId} {fz:Nat×Nat} (hb:W.heap[g]? =some (.cells cs T fz)) (hn:l.length=n) (hm:n≤maxLen) (hc:∀(j:Nat) x,l[j]? =some x→cs[o+j]? =some (.int .i64 x)):LstAt W (.slice (some ⟨g,o,none⟩) n n) l:=by
 have hg:g<W.heap.size:=by
  rcases Nat.lt_or_ge g W.heap.size with h|h
  · exact h
  · rw[Array.getElem?_eq_none h] at hb;cases hb
 have h:=vc_row (w:=W) (S:=fun k=>k<W.heap.size) (g:=g) (o:=o) (c:=n) (n:=n) (m:=l.map fun x=>AV.sc (.int .i64 x)) (vs:=l.map fun x=>Value.int .i64 x) hg (by rw[List.length_map];exact hn) (Nat.le_refl _) hm (fun j v hv=>by
  rw[List.getElem?_map] at hv
  obtain⟨x,hx,rfl⟩:=Option.map_eq_some_iff.1 hv
  rw[cell_of_row _ _ _ _ _ _ hb]
  exact hc j x hx) (by rw[List.length_map,List.length_map]) (fun v hv=>by
  obtain⟨x, -,rfl⟩:=List.mem_map.1 hv
  rfl) (fun i x v h1 h2=>by
  rw[List.getElem?_map] at h1 h2
  obtain⟨y,hy,rfl⟩:=Option.map_eq_some_iff.1 h1
  rw[hy] at h2
  cases h2
  exact .sc _)
 rw[List.map_map] at h
 exact h
theorem LstAt.row {W:World} {g n:Nat} {l:List Int} {cs:Array Value} {T:TypeId} {fz:Nat×Nat} (hb:W.heap[g]? =some (.cells cs T fz)) (hn:l.length=n) (hm:n≤maxLen) (hc:∀(j:Nat) x,l[j]? =some x→cs[j]? =some (.int .i64 x)):LstAt W (.slice (some ⟨g,0,none⟩) n n) l:=
 LstAt.rowAt hb hn hm (fun j x hx=>by rw[Nat.zero_add];exact hc j x hx)
def cellsR (p:RecM×Value):List Value:=[.int .u8 (p.1.op:Int),.int .i64 p.1.at_,.string (bt p.1.name),.int .i64 p.1.arg,p.2]
theorem LstAt.one {W:World} {u:Value} {l:List Int} (h:LstAt W u l):u.oneCell'=true:=by
 unfold LstAt at h
 cases h with
 |ro _ sz hz cs u hrd hl hw hc=>
  obtain⟨A,c,rfl, -⟩:=hrd
  rfl
theorem vc_recs {W:World} {g:Nat} (hg:g<W.heap.size) (L:List (RecM×Value)) (hL:L.length≤maxLen) (hcell:∀(j:Nat) v,(L.map cellsR).flatten[j]? =some v→W.cell? ⟨g,j,none⟩=some v) (hu:∀p∈L,LstAt W p.2 p.1.list):
 VC (fun k=>k<W.heap.size) W (.ro (cRl (L.map (·.1)))) (.slice (some ⟨g,0,none⟩) L.length L.length):=by
 obtain⟨cs,hcs⟩:∃cs:List (Vec 5),cs.map (·.1)=L.map cellsR:=by
  clear hcell hL
  induction L with
  |nil=>exact⟨[],rfl⟩
  |cons p L ih=>
   obtain⟨cs,e⟩:=ih (fun q hq=>hu q (List.mem_cons_of_mem _ hq))
   have x:{x:Vec 5 // x.1=cellsR p}:=⟨⟨cellsR p,rfl,fun u h=>by
    simp only[cellsR,List.mem_cons,List.not_mem_nil,or_false] at h
    rcases h with rfl|rfl|rfl|rfl|rfl<;>first|rfl|exact(hu p List.mem_cons_self).one⟩,rfl⟩
   exact⟨x.1::cs,by show x.1.1::cs.map (fun x=>x.1)=_;rw[e,x.2];rfl⟩
 have hlc:cs.length=L.length:=by have:=congrArg List.length hcs;simpa using this
 have hflat:(vecC 5 (by decide)).flat cs=(L.map cellsR).flatten:=by
  show (cs.map fun c=>(vecC 5 (by decide)).cells c).flatten=_
  rw[show (cs.map fun c=>(vecC 5 (by decide)).cells c)=cs.map (·.1) from rfl,hcs]
 have hget:∀(i:Nat) c,cs[i]? =some c→∃p,L[i]? =some p∧c.1=cellsR p:=fun i c hc=>by
  have h2:(cs.map (·.1))[i]? =some c.1:=by rw[List.getElem?_map,hc];rfl
  rw[hcs,List.getElem?_map] at h2
  obtain⟨p,hp,e⟩:=Option.map_eq_some_iff.1 h2
  exact⟨p,hp,e.symm⟩
 refine .ro _ 5 (by decide) cs _ ⟨some ⟨g,0,none⟩,L.length,by rw[hlc],by omega,hL,(fun e=>by cases e),fun hp=>⟨g,0,rfl,hg,fun j u hu=>by rw[Nat.zero_add];exact hcell j u (by rw[hflat] at hu;exact hu)⟩⟩ (by rw[cRl_len,List.length_map,hlc]) (fun i e he=> ?_) (fun i j e c' x v he hc' hx hv'=> ?_)
 · unfold cRl at he
   rw[List.getElem?_map] at he
   obtain⟨r, -,rfl⟩:=Option.map_eq_some_iff.1 he
   rfl
 · obtain⟨p,hp,e1⟩:=hget i c' hc'
   unfold cRl at he
   rw[List.getElem?_map,List.getElem?_map,hp] at he
   cases he
   rw[e1] at hv'
   match j with
   |0|1|2|3=>cases hx;cases hv';exact .sc _
   |4=>cases hx;cases hv';exact hu p (List.mem_of_getElem? hp)
   |j+5=>simp[cR] at hx
theorem con_bool {w:World} {f:FuncId} {args:List AV} {b:Bool} (h:ConAt Tryz.prog w f args (.sc (.bool b)) []) (vs:List Value) (hl:args.length=vs.length) (hv:∀(i:Nat) x v,args[i]? =some x→vs[i]? =some v→VC (fun k=>k<w.heap.size) w x v):
 Calls Tryz.prog f vs.toArray w fun e w'=>e=.returned (.bool b)∧Fr (fun _=>False) w w':=
 (h (fun k=>k<w.heap.size) vs (fun k hk=>hk) hl hv).mono fun e w' ⟨v,I,he,hm,hv⟩=>⟨by rw[he,hv.sc_inv],hm.fr⟩
theorem cells_get {W:World} {g:Nat} {cs:List Value} {T:TypeId} {fz:Nat×Nat} (hb:W.heap[g]? =some (.cells cs.toArray T fz)) (j:Nat) (v:Value) (hv:cs[j]? =some v):W.cell? ⟨g,j,none⟩=some v:=by
 rw[cell_of_row _ _ _ _ _ _ hb]
 simpa using hv
theorem lt_of_heap {W:World} {g:Nat} {o:Obj} (hb:W.heap[g]? =some o):g<W.heap.size:=by
 rcases Nat.lt_or_ge g W.heap.size with h|h
 · exact h
 · rw[Array.getElem?_eq_none h] at hb;cases hb
structure Ok (r:RecM):Prop where
 list:r.list.length≤2
 name:r.name.length≤2
 arg:In64 r
theorem Ok.shr {r:RecM} (h:Ok r):Shr r:=⟨by have:=h.list;omega,by have:=h.name;omega,h.arg⟩
theorem Ok.few {r:RecM} (h:Ok r):Few [r]:=⟨by simp,fun x hx=>by rw[List.mem_singleton] at hx;rw[hx];have:=h.name;omega,fun x hx=>by rw[List.mem_singleton] at hx;rw[hx];have:=h.list;omega⟩
theorem gPuts {w W:World} (hG:GG w W) {g:Nat} {r:RecM} {u:Value} {T:TypeId} {fz:Nat×Nat} (hb:W.heap[g]? =some (.cells (cellsR (r,u)).toArray T fz)) (hu:LstAt W u r.list) (hF:Few [r]) (hs:Shr r):
 Calls Tryz.prog 10 #[.slice (some ⟨g,0,none⟩) 1 1] W fun e w'=>e=.returned (.bool true)∧GG w w':=by
 refine(con_bool (puts_con r hF hs W hG.1) [_] rfl (fun i x v hx hv=> ?_)).mono fun e w' ⟨he,f⟩=>⟨he,hG.next f⟩
 match i with
 |0=>
  cases hx;cases hv
  exact vc_recs (lt_of_heap hb) [(r,u)] (show 1≤maxLen by decide) (fun j v hv=>cells_get hb j v hv) (fun p hp=>by rw[List.mem_singleton] at hp;rw[hp];exact hu)
 |i+1=>simp at hx
theorem gBack {w W:World} (hG:GG w W) {g:Nat} {r:RecM} {u:Value} {T:TypeId} {fz:Nat×Nat} (hb:W.heap[g]? =some (.cells (cellsR (r,u)++cellsR (⟨10,0,[],0,[]⟩,.slice none 0 0)).toArray T fz)) (hu:LstAt W u r.list) (hr:Ok r):
 Calls Tryz.prog 11 #[.slice (some ⟨g,0,none⟩) 2 2,.string ⟨#[]⟩] W fun e w'=>e=.returned (.bool true)∧GG w w':=by
 have hF:Few [r,⟨10,0,[],0,[]⟩]:=⟨by simp,fun x hx=>by
  simp only[List.mem_cons,List.not_mem_nil,or_false] at hx
  rcases hx with rfl|rfl
  · have:=hr.name;omega
  · simp,fun x hx=>by
  simp only[List.mem_cons,List.not_mem_nil,or_false] at hx
  rcases hx with rfl|rfl
  · have:=hr.list;omega
  · simp⟩
 have hS:Shs [r,⟨10,0,[],0,[]⟩]:=⟨by simp,fun x hx=>by
  simp only[List.mem_cons,List.not_mem_nil,or_false] at hx
  rcases hx with rfl|rfl
  · exact hr.shr
  · exact⟨by decide,by decide,⟨by decide,by decide⟩⟩⟩
 refine(con_bool (backs_con [r,⟨10,0,[],0,[]⟩] (by simp) hF hS (put_two hr.list (by have:=hr.name;omega) hr.arg) W hG.1) [_,_] rfl (fun i x v hx hv=> ?_)).mono fun e w' ⟨he,f⟩=>⟨he,hG.next f⟩
 match i with
 |0=>
  cases hx;cases hv
  exact vc_recs (lt_of_heap hb) [(r,u),(⟨10,0,[],0,[]⟩,.slice none 0 0)] (show 2≤maxLen by decide) (fun j v hv=>cells_get hb j v hv) (fun p hp=>by
   simp only[List.mem_cons,List.not_mem_nil,or_false] at hp
   rcases hp with rfl|rfl
   · exact hu
   · exact LstAt.nil W)
 |1=>cases hx;cases hv;exact .sc _
 |i+2=>simp at hx
theorem gNil {w W:World} (hG:GG w W) (s:ByteArray) (hs:s.size≤600) (h0:s.size≠0):
 Calls Tryz.prog 11 #[.slice none 0 0,.string s] W fun e w'=>e=.returned (.bool true)∧GG w w':=by
 refine(con_bool (backn_con s hs h0 W hG.1) [_,_] rfl (fun i x v hx hv=> ?_)).mono fun e w' ⟨he,f⟩=>⟨he,hG.next f⟩
 match i with
 |0=>cases hx;cases hv;exact LstAt.nil W
 |1=>cases hx;cases hv;exact .sc _
 |i+2=>simp at hx
theorem gGets {w W:World} (hG:GG w W) (s:ByteArray):Calls Tryz.prog 3 #[.string s] W fun e w'=>e=.returned (.bool true)∧GG w w':=by
 refine(con_bool (gets_con s W hG.1) [_] rfl (fun i x v hx hv=> ?_)).mono fun e w' ⟨he,f⟩=>⟨he,hG.next f⟩
 match i with
 |0=>cases hx;cases hv;exact .sc _
 |i+1=>simp[eS] at hx
theorem gWorks {w W:World} (hG:GG w W):Calls Tryz.prog 5 #[] W fun e w'=>e=.returned (.bool true)∧GG w w':=by
 refine(con_bool (works31_con W hG.1) [] rfl (fun i x v hx hv=>by simp at hx)).mono fun e w' ⟨he,f⟩=>⟨he,hG.next f⟩
theorem gMay {w W:World} (hG:GG w W) {r:RecM} {u:Value} (hu:LstAt W u r.list) (hn:r.name.length≤1000) (hm:mayB nmB r=true):
 Calls Tryz.prog 12 #[.agg (cellsR (r,u)).toArray] W fun e w'=>e=.returned (.bool true)∧GG w w':=by
 refine(con_bool (by have:=may_con r (by omega) W hG.1.1;rw[hm] at this;exact this) [_] rfl (fun i x v hx hv=> ?_)).mono fun e w' ⟨he,f⟩=>⟨he,hG.next f⟩
 match i with
 |0=>
  cases hx;cases hv
  refine .agg _ _ rfl (fun v hv=> ?_) (fun j x v hx hv=> ?_)
  · simp only[cellsR,List.mem_cons,List.not_mem_nil,or_false] at hv
    rcases hv with rfl|rfl|rfl|rfl|rfl<;>first|rfl|exact hu.one
  · match j with
    |0|1|2|3=>cases hx;cases hv;exact .sc _
    |4=>cases hx;cases hv;exact hu
    |j+5=>simp[cR] at hx
 |i+1=>simp[eR] at hx
end Go.Proofs.YtpjodoipceddpaaGreatDoor.Aw
