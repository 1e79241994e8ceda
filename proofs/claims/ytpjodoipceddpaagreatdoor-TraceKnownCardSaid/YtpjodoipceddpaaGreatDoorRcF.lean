/- Traces: the words' numbers, to the program. -/
import Derived.Test.YtpjodoipceddpaaGreatDoorRecYm
import Derived.WalkKit
import Derived.RowKitTokens
namespace Go.Proofs.YtpjodoipceddpaaGreatDoor.Aw
open Go.RowKit Go.Lib Rc
set_option maxHeartbeats 8000000
set_option maxRecDepth 100000
theorem calls_agg {P:Program} {w:World} {f:FuncId} {vl us:List Value} (h:ConAt P w f (vl.map .sc) (.agg (us.map .sc)) []):Calls P f vl.toArray w fun e w'=>e=.returned (.agg us.toArray)∧Fr (fun _=>False) w w':=by
 refine(h (fun _=>False) vl (fun _ h=>h.elim) (by simp) (fun i x v h1 h2=> ?_)).mono fun e w' ⟨v,I,he,hm,hv⟩=>⟨?_,hm.fr⟩
 · rw[getElem?_map_sc h1 h2]
   exact .sc v
 · obtain⟨vs,rfl,hl, -,hvs⟩:=hv.agg_inv
   rw[he]
   have hl2:vs.length=us.length:=by rw[←hl,List.length_map]
   have:vs=us:=by
    apply List.ext_getElem hl2
    intro i h1 h2
    exact(hvs i (.sc us[i]) vs[i] (by rw[List.getElem?_map,List.getElem?_eq_getElem h2];rfl) (List.getElem?_eq_getElem h1)).sc_inv
   rw[this]
def opsTab :List (ByteArray×Value):=[(⟨#[102,97,117,108,116]⟩,.int .u8 13),(⟨#[114,101,115,116]⟩,.int .u8 12),(⟨#[100,114,111,112]⟩,.int .u8 11),(⟨#[100,101,102,101,114]⟩,.int .u8 10),(⟨#[102,105,114,101]⟩,.int .u8 9),
 (⟨#[101,118,101,110,116]⟩,.int .u8 8),(⟨#[111,118,101,114]⟩,.int .u8 7),(⟨#[108,111,111,107]⟩,.int .u8 6),(⟨#[101,110,116,101,114]⟩,.int .u8 5),(⟨#[101,102,102,101,99,116]⟩,.int .u8 4),(⟨#[101,120,105,116]⟩,.int .u8 3)]
theorem lookB_cons (k:ByteArray) (v:Value) (l:List (ByteArray×Value)) (q:ByteArray):lookB ((k,v)::l) q=if q=k then some v else lookB l q:=by
 unfold lookB
 rw[List.find?_cons]
 by_cases h:q=k
 · rw[if_pos h,decide_eq_true (show k=q from h.symm)];rfl
 · rw[if_neg h,decide_eq_false (fun e:k=q=>h e.symm)]
theorem SMap.of_eq {w:World} {b:Nat} {f g:ByteArray→Option Value} (h:SMap w b f) (e:f=g):SMap w b g:=e ▸ h
theorem ops_look (t:T):lookB opsTab (bt t)=(opOf t).map fun o=>.int .u8 (o:Int):=by
 have hb:∀x:T,(bt t=bt x)↔t=x:=fun x=>⟨fun h=>bt_inj h,fun h=>by rw[h]⟩
 have e:∀o,3≤o→o≤13→t=Rc.opW o→lookB opsTab (bt t)=(opOf t).map fun o=>.int .u8 (o:Int):=fun o h1 h2 h=>by
  rw[h,opOf_opW h1 h2]
  have:o=3∨o=4∨o=5∨o=6∨o=7∨o=8∨o=9∨o=10∨o=11∨o=12∨o=13:=by omega
  rcases this with rfl|rfl|rfl|rfl|rfl|rfl|rfl|rfl|rfl|rfl|rfl<;>rfl
 by_cases h:∃o,3≤o∧o≤13∧t=Rc.opW o
 · obtain⟨o,h1,h2,h3⟩:=h
   exact e o h1 h2 h3
 · have hn:∀o,3≤o→o≤13→t≠Rc.opW o:=fun o h1 h2 h3=>h ⟨o,h1,h2,h3⟩
   have h0:opOf t=none:=by
    unfold opOf
    rw[List.find?_eq_none]
    intro o ho
    obtain⟨i,hi,rfl⟩:=List.mem_map.1 ho
    rw[List.mem_range] at hi
    simp only[decide_eq_true_eq]
    exact fun h=>hn (i+3) (by omega) (by omega) h.symm
   rw[h0]
   have hx:∀o,3≤o→o≤13→bt t≠bt (Rc.opW o):=fun o h1 h2 h3=>hn o h1 h2 ((hb _).1 h3)
   unfold opsTab
   rw[lookB_cons]
   refine(if_neg (hx 13 (by decide) (by decide))).trans ?_
   rw[lookB_cons]
   refine(if_neg (hx 12 (by decide) (by decide))).trans ?_
   rw[lookB_cons]
   refine(if_neg (hx 11 (by decide) (by decide))).trans ?_
   rw[lookB_cons]
   refine(if_neg (hx 10 (by decide) (by decide))).trans ?_
   rw[lookB_cons]
   refine(if_neg (hx 9 (by decide) (by decide))).trans ?_
   rw[lookB_cons]
   refine(if_neg (hx 8 (by decide) (by decide))).trans ?_
   rw[lookB_cons]
   refine(if_neg (hx 7 (by decide) (by decide))).trans ?_
   rw[lookB_cons]
   refine(if_neg (hx 6 (by decide) (by decide))).trans ?_
   rw[lookB_cons]
   refine(if_neg (hx 5 (by decide) (by decide))).trans ?_
   rw[lookB_cons]
   refine(if_neg (hx 4 (by decide) (by decide))).trans ?_
   rw[lookB_cons]
   refine(if_neg (hx 3 (by decide) (by decide))).trans ?_
   rfl
theorem ix0 (w:World):(Instr.index 77 (.agg #[.string ⟨#[]⟩,.string ⟨#[]⟩,.string ⟨#[]⟩,.string ⟨#[101,120,105,116]⟩,.string ⟨#[101,102,102,101,99,116]⟩,.string ⟨#[101,110,116,101,114]⟩,.string ⟨#[108,111,111,107]⟩,.string ⟨#[111,118,101,114]⟩,.string ⟨#[101,118,101,110,116]⟩,.string ⟨#[102,105,114,101]⟩,.string ⟨#[100,101,102,101,114]⟩,.string ⟨#[100,114,111,112]⟩,.string ⟨#[114,101,115,116]⟩,.string ⟨#[102,97,117,108,116]⟩]) (.int .i64 0)).run Tryz.prog w=.ok (.string ⟨#[]⟩) w:=by kernel_rfl
theorem ix1 (w:World):(Instr.index 77 (.agg #[.string ⟨#[]⟩,.string ⟨#[]⟩,.string ⟨#[]⟩,.string ⟨#[101,120,105,116]⟩,.string ⟨#[101,102,102,101,99,116]⟩,.string ⟨#[101,110,116,101,114]⟩,.string ⟨#[108,111,111,107]⟩,.string ⟨#[111,118,101,114]⟩,.string ⟨#[101,118,101,110,116]⟩,.string ⟨#[102,105,114,101]⟩,.string ⟨#[100,101,102,101,114]⟩,.string ⟨#[100,114,111,112]⟩,.string ⟨#[114,101,115,116]⟩,.string ⟨#[102,97,117,108,116]⟩]) (.int .i64 1)).run Tryz.prog w=.ok (.string ⟨#[]⟩) w:=by kernel_rfl
theorem ix2 (w:World):(Instr.index 77 (.agg #[.string ⟨#[]⟩,.string ⟨#[]⟩,.string ⟨#[]⟩,.string ⟨#[101,120,105,116]⟩,.string ⟨#[101,102,102,101,99,116]⟩,.string ⟨#[101,110,116,101,114]⟩,.string ⟨#[108,111,111,107]⟩,.string ⟨#[111,118,101,114]⟩,.string ⟨#[101,118,101,110,116]⟩,.string ⟨#[102,105,114,101]⟩,.string ⟨#[100,101,102,101,114]⟩,.string ⟨#[100,114,111,112]⟩,.string ⟨#[114,101,115,116]⟩,.string ⟨#[102,97,117,108,116]⟩]) (.int .i64 2)).run Tryz.prog w=.ok (.string ⟨#[]⟩) w:=by kernel_rfl
theorem ix3 (w:World):(Instr.index 77 (.agg #[.string ⟨#[]⟩,.string ⟨#[]⟩,.string ⟨#[]⟩,.string ⟨#[101,120,105,116]⟩,.string ⟨#[101,102,102,101,99,116]⟩,.string ⟨#[101,110,116,101,114]⟩,.string ⟨#[108,111,111,107]⟩,.string ⟨#[111,118,101,114]⟩,.string ⟨#[101,118,101,110,116]⟩,.string ⟨#[102,105,114,101]⟩,.string ⟨#[100,101,102,101,114]⟩,.string ⟨#[100,114,111,112]⟩,.string ⟨#[114,101,115,116]⟩,.string ⟨#[102,97,117,108,116]⟩]) (.int .i64 3)).run Tryz.prog w=.ok (.string ⟨#[101,120,105,116]⟩) w:=by kernel_rfl
theorem ix4 (w:World):(Instr.index 77 (.agg #[.string ⟨#[]⟩,.string ⟨#[]⟩,.string ⟨#[]⟩,.string ⟨#[101,120,105,116]⟩,.string ⟨#[101,102,102,101,99,116]⟩,.string ⟨#[101,110,116,101,114]⟩,.string ⟨#[108,111,111,107]⟩,.string ⟨#[111,118,101,114]⟩,.string ⟨#[101,118,101,110,116]⟩,.string ⟨#[102,105,114,101]⟩,.string ⟨#[100,101,102,101,114]⟩,.string ⟨#[100,114,111,112]⟩,.string ⟨#[114,101,115,116]⟩,.string ⟨#[102,97,117,108,116]⟩]) (.int .i64 4)).run Tryz.prog w=.ok (.string ⟨#[101,102,102,101,99,116]⟩) w:=by kernel_rfl
theorem ix5 (w:World):(Instr.index 77 (.agg #[.string ⟨#[]⟩,.string ⟨#[]⟩,.string ⟨#[]⟩,.string ⟨#[101,120,105,116]⟩,.string ⟨#[101,102,102,101,99,116]⟩,.string ⟨#[101,110,116,101,114]⟩,.string ⟨#[108,111,111,107]⟩,.string ⟨#[111,118,101,114]⟩,.string ⟨#[101,118,101,110,116]⟩,.string ⟨#[102,105,114,101]⟩,.string ⟨#[100,101,102,101,114]⟩,.string ⟨#[100,114,111,112]⟩,.string ⟨#[114,101,115,116]⟩,.string ⟨#[102,97,117,108,116]⟩]) (.int .i64 5)).run Tryz.prog w=.ok (.string ⟨#[101,110,116,101,114]⟩) w:=by kernel_rfl
theorem ix6 (w:World):(Instr.index 77 (.agg #[.string ⟨#[]⟩,.string ⟨#[]⟩,.string ⟨#[]⟩,.string ⟨#[101,120,105,116]⟩,.string ⟨#[101,102,102,101,99,116]⟩,.string ⟨#[101,110,116,101,114]⟩,.string ⟨#[108,111,111,107]⟩,.string ⟨#[111,118,101,114]⟩,.string ⟨#[101,118,101,110,116]⟩,.string ⟨#[102,105,114,101]⟩,.string ⟨#[100,101,102,101,114]⟩,.string ⟨#[100,114,111,112]⟩,.string ⟨#[114,101,115,116]⟩,.string ⟨#[102,97,117,108,116]⟩]) (.int .i64 6)).run Tryz.prog w=.ok (.string ⟨#[108,111,111,107]⟩) w:=by kernel_rfl
theorem ix7 (w:World):(Instr.index 77 (.agg #[.string ⟨#[]⟩,.string ⟨#[]⟩,.string ⟨#[]⟩,.string ⟨#[101,120,105,116]⟩,.string ⟨#[101,102,102,101,99,116]⟩,.string ⟨#[101,110,116,101,114]⟩,.string ⟨#[108,111,111,107]⟩,.string ⟨#[111,118,101,114]⟩,.string ⟨#[101,118,101,110,116]⟩,.string ⟨#[102,105,114,101]⟩,.string ⟨#[100,101,102,101,114]⟩,.string ⟨#[100,114,111,112]⟩,.string ⟨#[114,101,115,116]⟩,.string ⟨#[102,97,117,108,116]⟩]) (.int .i64 7)).run Tryz.prog w=.ok (.string ⟨#[111,118,101,114]⟩) w:=by kernel_rfl
theorem ix8 (w:World):(Instr.index 77 (.agg #[.string ⟨#[]⟩,.string ⟨#[]⟩,.string ⟨#[]⟩,.string ⟨#[101,120,105,116]⟩,.string ⟨#[101,102,102,101,99,116]⟩,.string ⟨#[101,110,116,101,114]⟩,.string ⟨#[108,111,111,107]⟩,.string ⟨#[111,118,101,114]⟩,.string ⟨#[101,118,101,110,116]⟩,.string ⟨#[102,105,114,101]⟩,.string ⟨#[100,101,102,101,114]⟩,.string ⟨#[100,114,111,112]⟩,.string ⟨#[114,101,115,116]⟩,.string ⟨#[102,97,117,108,116]⟩]) (.int .i64 8)).run Tryz.prog w=.ok (.string ⟨#[101,118,101,110,116]⟩) w:=by kernel_rfl
theorem ix9 (w:World):(Instr.index 77 (.agg #[.string ⟨#[]⟩,.string ⟨#[]⟩,.string ⟨#[]⟩,.string ⟨#[101,120,105,116]⟩,.string ⟨#[101,102,102,101,99,116]⟩,.string ⟨#[101,110,116,101,114]⟩,.string ⟨#[108,111,111,107]⟩,.string ⟨#[111,118,101,114]⟩,.string ⟨#[101,118,101,110,116]⟩,.string ⟨#[102,105,114,101]⟩,.string ⟨#[100,101,102,101,114]⟩,.string ⟨#[100,114,111,112]⟩,.string ⟨#[114,101,115,116]⟩,.string ⟨#[102,97,117,108,116]⟩]) (.int .i64 9)).run Tryz.prog w=.ok (.string ⟨#[102,105,114,101]⟩) w:=by kernel_rfl
theorem ix10 (w:World):(Instr.index 77 (.agg #[.string ⟨#[]⟩,.string ⟨#[]⟩,.string ⟨#[]⟩,.string ⟨#[101,120,105,116]⟩,.string ⟨#[101,102,102,101,99,116]⟩,.string ⟨#[101,110,116,101,114]⟩,.string ⟨#[108,111,111,107]⟩,.string ⟨#[111,118,101,114]⟩,.string ⟨#[101,118,101,110,116]⟩,.string ⟨#[102,105,114,101]⟩,.string ⟨#[100,101,102,101,114]⟩,.string ⟨#[100,114,111,112]⟩,.string ⟨#[114,101,115,116]⟩,.string ⟨#[102,97,117,108,116]⟩]) (.int .i64 10)).run Tryz.prog w=.ok (.string ⟨#[100,101,102,101,114]⟩) w:=by kernel_rfl
theorem ix11 (w:World):(Instr.index 77 (.agg #[.string ⟨#[]⟩,.string ⟨#[]⟩,.string ⟨#[]⟩,.string ⟨#[101,120,105,116]⟩,.string ⟨#[101,102,102,101,99,116]⟩,.string ⟨#[101,110,116,101,114]⟩,.string ⟨#[108,111,111,107]⟩,.string ⟨#[111,118,101,114]⟩,.string ⟨#[101,118,101,110,116]⟩,.string ⟨#[102,105,114,101]⟩,.string ⟨#[100,101,102,101,114]⟩,.string ⟨#[100,114,111,112]⟩,.string ⟨#[114,101,115,116]⟩,.string ⟨#[102,97,117,108,116]⟩]) (.int .i64 11)).run Tryz.prog w=.ok (.string ⟨#[100,114,111,112]⟩) w:=by kernel_rfl
theorem ix12 (w:World):(Instr.index 77 (.agg #[.string ⟨#[]⟩,.string ⟨#[]⟩,.string ⟨#[]⟩,.string ⟨#[101,120,105,116]⟩,.string ⟨#[101,102,102,101,99,116]⟩,.string ⟨#[101,110,116,101,114]⟩,.string ⟨#[108,111,111,107]⟩,.string ⟨#[111,118,101,114]⟩,.string ⟨#[101,118,101,110,116]⟩,.string ⟨#[102,105,114,101]⟩,.string ⟨#[100,101,102,101,114]⟩,.string ⟨#[100,114,111,112]⟩,.string ⟨#[114,101,115,116]⟩,.string ⟨#[102,97,117,108,116]⟩]) (.int .i64 12)).run Tryz.prog w=.ok (.string ⟨#[114,101,115,116]⟩) w:=by kernel_rfl
theorem ix13 (w:World):(Instr.index 77 (.agg #[.string ⟨#[]⟩,.string ⟨#[]⟩,.string ⟨#[]⟩,.string ⟨#[101,120,105,116]⟩,.string ⟨#[101,102,102,101,99,116]⟩,.string ⟨#[101,110,116,101,114]⟩,.string ⟨#[108,111,111,107]⟩,.string ⟨#[111,118,101,114]⟩,.string ⟨#[101,118,101,110,116]⟩,.string ⟨#[102,105,114,101]⟩,.string ⟨#[100,101,102,101,114]⟩,.string ⟨#[100,114,111,112]⟩,.string ⟨#[114,101,115,116]⟩,.string ⟨#[102,97,117,108,116]⟩]) (.int .i64 13)).run Tryz.prog w=.ok (.string ⟨#[102,97,117,108,116]⟩) w:=by kernel_rfl
theorem ops_any (w:World):Calls Tryz.prog 20 #[] w fun e w'=>∃b,e=.returned (.map (some b))∧w.heap.size≤b∧SMap w' b (lookB opsTab)∧Fr (fun _=>False) w w':=by
 have hmm:= @run_makeMap Tryz.prog
 have j0:=ix0
 have j1:=ix1
 have j2:=ix2
 have j3:=ix3
 have j4:=ix4
 have j5:=ix5
 have j6:=ix6
 have j7:=ix7
 have j8:=ix8
 have j9:=ix9
 have j10:=ix10
 have j11:=ix11
 have j12:=ix12
 have j13:=ix13
 have HW:=hide (fun w=>calls_agg (vl:=[]) (us:=[.string ⟨#[]⟩,.string ⟨#[]⟩,.string ⟨#[]⟩,.string ⟨#[101,120,105,116]⟩,.string ⟨#[101,102,102,101,99,116]⟩,.string ⟨#[101,110,116,101,114]⟩,.string ⟨#[108,111,111,107]⟩,.string ⟨#[111,118,101,114]⟩,.string ⟨#[101,118,101,110,116]⟩,.string ⟨#[102,105,114,101]⟩,.string ⟨#[100,101,102,101,114]⟩,.string ⟨#[100,114,111,112]⟩,.string ⟨#[114,101,115,116]⟩,.string ⟨#[102,97,117,108,116]⟩]) (words_con w))
 go_enter Tryz.func20,Tryz.ntmps20
 go_wp2_with (go_at_call 41;refine(HW.out _).mono ?_;rintro e w1 ⟨rfl,f1⟩)
 have s1:SMap w1 w.heap.size (fun _=>none):=(SMap.made w).fr f1 (fun h=>h)
 have g1:Fr (fun k=>k=w.heap.size) (w.alloc (.map #[] 0)) w1:=f1.mono (fun _ h=>h.elim)
 refine wp_loop_rounds 15 ?_
 rw[rounds_succ]
 go_wp2
 rw[rounds_succ]
 go_wp2
 rw[rounds_succ]
 go_wp2
 rw[rounds_succ]
 go_wp2_with (refine wpList_update_s rfl (.inl rfl) Tryz.underlying51 Tryz.underlying9 rfl rfl rfl s1 ?_;clear s1;intro w3 s1 f3 z3;replace g1:=g1.then_ f3 (fun k _ h=>h);clear f3 z3)
 rw[rounds_succ]
 go_wp2_with (refine wpList_update_s rfl (.inl rfl) Tryz.underlying51 Tryz.underlying9 rfl rfl rfl s1 ?_;clear s1;intro w3 s1 f3 z3;replace g1:=g1.then_ f3 (fun k _ h=>h);clear f3 z3)
 rw[rounds_succ]
 go_wp2_with (refine wpList_update_s rfl (.inl rfl) Tryz.underlying51 Tryz.underlying9 rfl rfl rfl s1 ?_;clear s1;intro w3 s1 f3 z3;replace g1:=g1.then_ f3 (fun k _ h=>h);clear f3 z3)
 rw[rounds_succ]
 go_wp2_with (refine wpList_update_s rfl (.inl rfl) Tryz.underlying51 Tryz.underlying9 rfl rfl rfl s1 ?_;clear s1;intro w3 s1 f3 z3;replace g1:=g1.then_ f3 (fun k _ h=>h);clear f3 z3)
 rw[rounds_succ]
 go_wp2_with (refine wpList_update_s rfl (.inl rfl) Tryz.underlying51 Tryz.underlying9 rfl rfl rfl s1 ?_;clear s1;intro w3 s1 f3 z3;replace g1:=g1.then_ f3 (fun k _ h=>h);clear f3 z3)
 rw[rounds_succ]
 go_wp2_with (refine wpList_update_s rfl (.inl rfl) Tryz.underlying51 Tryz.underlying9 rfl rfl rfl s1 ?_;clear s1;intro w3 s1 f3 z3;replace g1:=g1.then_ f3 (fun k _ h=>h);clear f3 z3)
 rw[rounds_succ]
 go_wp2_with (refine wpList_update_s rfl (.inl rfl) Tryz.underlying51 Tryz.underlying9 rfl rfl rfl s1 ?_;clear s1;intro w3 s1 f3 z3;replace g1:=g1.then_ f3 (fun k _ h=>h);clear f3 z3)
 rw[rounds_succ]
 go_wp2_with (refine wpList_update_s rfl (.inl rfl) Tryz.underlying51 Tryz.underlying9 rfl rfl rfl s1 ?_;clear s1;intro w3 s1 f3 z3;replace g1:=g1.then_ f3 (fun k _ h=>h);clear f3 z3)
 rw[rounds_succ]
 go_wp2_with (refine wpList_update_s rfl (.inl rfl) Tryz.underlying51 Tryz.underlying9 rfl rfl rfl s1 ?_;clear s1;intro w3 s1 f3 z3;replace g1:=g1.then_ f3 (fun k _ h=>h);clear f3 z3)
 rw[rounds_succ]
 go_wp2_with (refine wpList_update_s rfl (.inl rfl) Tryz.underlying51 Tryz.underlying9 rfl rfl rfl s1 ?_;clear s1;intro w3 s1 f3 z3;replace g1:=g1.then_ f3 (fun k _ h=>h);clear f3 z3)
 rw[rounds_succ]
 go_wp2_with (refine wpList_update_s rfl (.inl rfl) Tryz.underlying51 Tryz.underlying9 rfl rfl rfl s1 ?_;clear s1;intro w3 s1 f3 z3;replace g1:=g1.then_ f3 (fun k _ h=>h);clear f3 z3)
 rw[rounds_succ]
 go_wp2
 go_ret
 refine⟨_,rfl,Nat.le_refl _,SMap.of_eq s1 (funext fun q=> ?_),(Fr.alloc (Fr.refl _ _) _).then_ g1 (fun k hk h=>by omega)⟩
 unfold opsTab
 rw[lookB_cons,lookB_cons,lookB_cons,lookB_cons,lookB_cons,lookB_cons,lookB_cons,lookB_cons,lookB_cons,lookB_cons,lookB_cons]
 rfl
end Go.Proofs.YtpjodoipceddpaaGreatDoor.Aw
