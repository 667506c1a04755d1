/-
  Part 5 of the proof. gladstonelaw04.PileMost answers true for every list of numbers, and leaves its argument as it was. No conditions.
-/
import Derived.Test.YtidgnkmjgioapaaGreatJ1
import Derived.Conc.AtomicLaws2
import Derived.StillTailTactics
set_option maxRecDepth 100000
set_option maxHeartbeats 8000000
set_option linter.all false
open And renaming intro → q8D
open Array renaming getD_eq_getD_getElem? → qbm,getElem?_append → qdk,getElem?_eq_getElem → q9w,getElem?_eq_some_iff → q45,getElem?_setIfInBounds → qav,getElem?_setIfInBounds_ne → qbj,mem_append → qdc,mem_of_getElem? → qby,replicate → qb4,replicate_succ → qao,replicate_zero → qat
open Bool renaming and_eq_true → q9b,false_eq_true → qa5,not_eq_true' → qcE
open Classical renaming byContradiction → qbw,em → qd6
open Go renaming Addr → qb9,Calls → qaD,Code → qcm,Deferred → qc3,Event → qbr,Frame → q8c,FuncId → qbe,Goroutine → q5r,Item → qdy,Oper → qbz,Operand → qaH,Program → q8b,Question → qc7,TypeId → q8u,Value → q58,World → q3g,bodyPost_ret → qcG,callDeferred → qc6,doReturn → qc9,grownCap → qdB,heap_alloc_new → q7j,heap_setCell_other → qdp,info_parts → qch,stepG → qb7,tryRecover → q9A,undef → q5s,wpAny_ready → qdj,wpAny_take → qdb
open Go.AllReady renaming cons → qce,nil → qd7
open Go.Builtin renaming zeroCells → qck
open Go.Calls renaming quiet_of_same → qc4
open Go.Conc renaming base → q9v,baseD → qbs,stepG_region_end → q5t,stepG_seq → q89,stepG_skip → qbq
open Go.Conc.Goes renaming stop → qca
open Go.ConcN renaming WgLive → qcF
open Go.Frame renaming enter → qan,finish_at → qcr
open Go.GStep renaming after → qbf
open Go.Instr renaming mapUpdate → qbE
open Go.IntKind renaming wrap_i64 → qes
open Go.IntWalk renaming i64_in → qa7
open Go.Lib renaming hid → q1D
open Go.MemAct renaming ofEvent → qbv,touch? → qcj
open Go.Proofs.Tryz renaming f85 → qdv,prog → q8v
open Go.Region renaming binds → qb8,ready → q91,wanted → qb0
open Go.Result renaming andThen_ok → qbC
open Go.RowKit renaming intOf → qb2
open Go.Sem renaming run_bind → qbB
open Go.Value renaming int → q9q,oneCell' → qbD,ownBlock → qak,slice → qbp
open Go.World renaming cell? → qal,grownBy_alloc → q34,news_of_block → qbg,ownsRow_nil → qcb,setCell → qci,size_alloc → q8f
open Go.World.grownBy renaming andThen → qc0,refl → q8j
open List renaming all_eq_true → qau,append_assoc → qc1,cons_append → q9y,drop_succ_cons → qbh,drop_zero → qbH,eq_nil_of_length_eq_zero → qbo,getElem?_append_left → qaj,getElem?_append_right → qco,getElem?_eq_getElem → q7C,getElem?_eq_none → qd5,getElem?_eq_some_iff → q8w,length_append → qb3,length_cons → q8l,length_filter_le → qcd,length_map → qcl,length_nil → q9k,length_take → qcD,map_append → qc5,mem_append → qcz,mem_cons → qbx,mem_of_getElem? → q8z,mem_range → qcn,mem_toArray → qde,nil_append → qae,not_mem_nil → qc2,push_toArray → qbd,range → qa4,size_toArray → qa0,take_add_one → qbc,take_length → qcc
open List.range renaming loop → qb6
open Nat renaming le_refl → q5m,le_trans → q87,lt_of_lt_of_le → q8m,lt_or_ge → qbF,reduceAdd → q9F,reduceSub → qbA,zero_add → q9m,zero_le → qa8
open Option renaming bind_eq_some_iff → qba,getD_some → q88,map_some → qbt
open Option.some renaming injEq → qaz
section
namespace Go.Proofs.YtidgnkmjgioapaaGreat
open Go Go.RowKit Go.Co
def MendR(w0:q3g)(o:Option (Int × List Int))(e:Ending)(w':q3g):Prop :=
 w0.grownBy w' none/\match o with
 | some (st,r)=>∃v,e=.returned (.tuple #[.int .i64 st,v,.int .i64 0])/\qe 0 w'.heap.size w' v r
 | none=>e=.returned (.tuple #[.int .i64 0,.slice none 0 0,.int .i64 11])
theorem q7m{l:Nat}{J J':Act->q3g->Prop}{Q:Exit->Act->q3g->Prop}(h:∀a w,J a w->J' a w):∀e a w,Exit.jump l J Q e a w->Exit.jump l J' Q e a w:=by
 intro e a w hh;cases e with
 | goto l'=>exact⟨hh.1,h _ _ hh.2⟩
 | _=>exact hh
theorem q32{w w':q3g}{o:Option (Int × List Int)}{z:Array q58}(hz:z.size=123)(hR:MendZ o z w')(hg:w.grownBy w' none):bodyPost Tryp.prog Tryz.f54 (λe w'=>MendR w o e w') .ret ⟨z,[]⟩ w':=by
 obtain⟨t,ht,rfl⟩:=QV z hz;cases o with
 | none =>
  obtain⟨h4,h5,h6⟩:=hR;have e4:=ht 4 _ h4;have e5:=ht 5 _ h5;have e6:=ht 6 _ h6;rw[e4,e5,e6];exact qcG (v:=.tuple #[.int .i64 0,.slice none 0 0,.int .i64 11]) (by simp[results,Tryz.results54,go_sem]) rfl ⟨hg,rfl⟩
 | some p =>
  obtain⟨st,r⟩:=p;obtain⟨v,h4,h5,h6,hi⟩:=hR;have e4:=ht 4 _ h4;have e5:=ht 5 _ h5;have e6:=ht 6 _ h6;rw[e4,e5,e6];exact qcG (v:=.tuple #[.int .i64 st,v,.int .i64 0]) (by simp[results,Tryz.results54,go_sem]) rfl ⟨hg,v,rfl,hi⟩
theorem mend_ok(pv qv:q58)(ps:List Par)(lim:Int)(l:List Int)(w:q3g)(hP:qr 0 w.heap.size w pv ps)(hI:qe 0 w.heap.size w qv l)(hok:YOk ps lim)(hp:POk ps lim l)(f0:Nat)(hf:f0<=1000)(o:Option (Int × List Int))(hm:q03 ps lim l.length f0 [zO l] [zO l] 0=some o) :
  qaD Tryp.prog 54 #[.agg #[pv,.int .i64 lim],qv] w λe w'=>MendR w o e w':=by
 obtain⟨yb,yc,rfl,k7,-⟩:=hP.cell;obtain⟨pb,pc,rfl,-,-⟩:=hI.cell;have l4:=hp.len;have HP:=q1D hP;have HI:=q1D hI;have d7:=q1D hok;have h9:=q1D hp;have HM:=q1D hm;clear hP hI hok hp hm;go_enter Tryp.func54,Tryz.ntmps54;have Z:l.length<=5:=by
  cases f0 with
  | zero=>cases HM.out
  | succ f =>
   have h:=HM.out;unfold q03 at h;split at h
   ·rename_i h1
    have:=(xR (qau.1 h1.1 (zO l) (by simp))).1;unfold zO at this;rw[qb3] at this;omega
   ·cases h
 go_wp2;refine wp_scope_jumps 0 (MJ ps lim w pb l.length pc f0 (.slice yb ps.length yc) o) (λa _=>(f0 - st12 a).toNat) rfl ?_ ?_
 ·go_upto_region 4 with(first
   | (go_at_call 81;go_must (refine(vT 0 w.heap.size _ _ ps lim l _ (HP.out.kept (q34 _ _ none) (by simp)) (HI.out.kept (q34 _ _ none) (by simp)) (by simp) d7.out h9.out).mono ?_);rintro e w2 ⟨rfl,g5⟩;have g7:=q1D ((q34 w (.cells #[.slice yb ps.length yc,.int .i64 lim] 24) none).trans g5);clear g5))
  obtain⟨Yb,c8⟩:∃Yb,Yb=w2.heap.size:=⟨_,rfl⟩
  rw[<- c8];refine xB (λu=>w.grownBy u none/\u.heap[Yb]?=some (.cells #[.slice yb ps.length yc,.int .i64 lim] 91 (0,0))) ⟨g7.out.trans (q34 _ _ none),by rw[c8];exact q7j _ _⟩ (λu hF=>?_);obtain⟨g3,y3⟩:=hF;have G3:=q1D g3;have Y3:=q1D y3;clear g3 y3 c8 g7;obtain⟨M,a7⟩:∃M,M=u.heap.size:=⟨_,rfl⟩
  have a9:zL (u.alloc (.map #[] 0)) M []:=zL.nil (by rw[a7];exact q7j u (.map #[] 0));have b0:=q1D a9;have a6:u.grownBy (u.alloc (.map #[] 0)) none:=q34 _ _ none;have k5:=q1D a6;have c9:M<(u.alloc (.map #[] 0)).heap.size:=by rw[a7,q8f];omega
  have h5:=QI Z;obtain⟨x0,x1,x2,x3,x4,d9⟩:=len5 h5;have d6:=q1D d9;have g9:(Instr.makeMap 120 none).run Tryp.prog u=.ok (.map (some M)) (u.alloc (.map #[] 0)):=by rw[a7];rfl
  clear a9 h5 d9;go_upto_region 5 with(first
   | (go_at_call 112;refine(J0 0 _ _ l _ ((HI.out.kept (G3.out.trans a6) (by simp)).mono (q5m _) (G3.out.trans a6).size) Z).mono ?_;rintro e w5 ⟨rfl,b9⟩;have d8:=q1D b9;have e6:=b0.out.kept (b9.block M c9 (by simp));obtain⟨ob,k9,b7,e8⟩:=e6.add (zO l) (QI Z) (by simp) 0;have k0:=q1D e8;clear e8 b9 e6;rw[d6.out] at b7 ⊢;have e5:(qbE 120 (.map (some u.heap.size)) (.agg #[.int .i64 x0,.int .i64 x1,.int .i64 x2,.int .i64 x3,.int .i64 x4]) (.int .i64 0)).run Tryp.prog w5=.ok () (w5.putObj M ob):=a7 ▸ b7;clear b7;unfold A5))
  rw[<- a7];have e9:M<w5.heap.size:=q8m c9 d8.out.size;have e4:w.heap.size<=M:=by have:=G3.out.size;omega
  refine xB (λv=>w.grownBy v none/\v.heap[Yb]?=some (.cells #[.slice yb ps.length yc,.int .i64 lim] 91 (0,0))/\zL v M [zO l]) ⟨xx (G3.out.trans (a6.trans d8.out)) (grownBy_putObj' _ _ _) e4,blk (grownBy_putObj' _ _ _) (λe=>by cases e;have:=qy Y3.out;omega) (blk (a6.trans d8.out) (by simp) Y3.out),k0.out _ (World.putObj_heap_same e9)⟩ (λu6 hF=>?_);obtain⟨g6,y6,m6⟩:=hF;have G6:=q1D g6;have Y6:=q1D y6;have M6:=q1D m6;have k8:=g6.size;clear g6 y6 m6 e5 g9 b0 a6 k5 c9 e9 a7;go_upto_region 6 with(first
   | (go_at_call 112;refine(J0 0 _ _ l _ ((HI.out.kept G6.out (by simp)).mono (q5m _) G6.out.size) Z).mono ?_;rintro e w7 ⟨rfl,e7⟩;have k6:=q1D e7;clear e7;rw[d6.out];unfold A5))
  have b8:=M6.out;have c3:(w7.alloc (.cells #[.int .i64 x0,.int .i64 x1,.int .i64 x2,.int .i64 x3,.int .i64 x4] 118)).heap[w7.heap.size]?=some (.cells #[.int .i64 x0,.int .i64 x1,.int .i64 x2,.int .i64 x3,.int .i64 x4] 118 (0,0)):=q7j w7 _;have a8:=k6.out.trans (q34 w7 (.cells #[.int .i64 x0,.int .i64 x1,.int .i64 x2,.int .i64 x3,.int .i64 x4] 118) none);have h8:M<u6.heap.size:=by obtain⟨es,cl,e,-⟩:=b8;exact qy e
  obtain⟨B7,d5⟩:∃B7,B7=w7.heap.size:=⟨_,rfl⟩
  rw[<- d5] at c3;rw[<- d5];refine xB (λv=>w.grownBy v none/\v.heap[Yb]?=some (.cells #[.slice yb ps.length yc,.int .i64 lim] 91 (0,0))/\zL v M [zO l]/\jh v (.slice (some ⟨B7,0,none⟩) [zO l].length 1) [zO l]) ⟨G6.out.trans a8,blk a8 (by simp) Y6.out,b8.kept (a8.block M h8 (by simp)),_,_,rfl,λ_=>⟨B7,0,_,_,rfl,c3,λi s hi d hd=>by
   rcases i with _ | i
   ·simp at hi
    subst hi;rw[d6.out];obtain rfl | rfl | rfl | rfl | rfl:d=0\/d=1\/d=2\/d=3\/d=4:=by omega
    all_goals rfl
   ·simp at hi⟩⟩ (λu8 hF=>?_)
  obtain⟨g8,y8,m8,s8⟩:=hF;have G8:=q1D g8;have Y8:=q1D y8;have M8:=q1D m8;have S8:=q1D s8;clear g8 y8 m8 s8 b8 c3 a8 d5;go_wp2;refine wp_label ?_
  rename_i K hK
  refine hK _ _ ?_;refine xg (c':=mX8) (by simp only[mX8,Tryz.f54,q88,sqB,inn]) ?_;refine Code.wp_mono (q7m λa u h=>h.1) (mendP ps lim w u8 pb l.length pc f0 _ o _ _ ⟨_,Yb,M,0,f0,[zO l],[zO l],_,_,rfl,rfl,rfl,rfl,rfl,rfl,rfl,rfl,by omega,HM.out,M8.out,e4,S8.out,G8.out,Y8.out,HP.out.kept G8.out (by simp)⟩ d7.out Z hf ?_);exact λz' w' b6 hR hg=>q32 b6 hR hg
 ·rintro a u hJ
  refine wp_seq ?_;refine wp_skip ?_;refine xg (c':=mX8) (by simp only[mX8,Tryz.f54,q88,sqB,inn]) ?_;refine mendP ps lim w u pb l.length pc f0 _ o a _ hJ d7.out Z hf ?_;exact λz' w' b6 hR hg=>q32 b6 hR hg
end Go.Proofs.YtidgnkmjgioapaaGreat
end
section
namespace Go.Proofs.YtidgnkmjgioapaaGreat
open Go.RowKit Go.Co
def kT(lo hi:Nat)(w:q3g)(v:q58)(n:Nat)(c:Nat->Nat->Int):Prop :=
 ∃base cap,v=.slice base n cap/\(n:Int)<=1000000/\(0<n->∃B o cs ty fr,base=some ⟨B,o,none⟩/\lo<=B/\B<hi/\w.heap[B]?=some (.cells cs ty fr)/\∀i,i<n->∀d,d<5->cs[o+i*5+d]?=some (.int .i64 (c i d)))
def ovr(c g:Nat->Int)(l:List Int)(k:Nat):Nat->Int:=λd=>if(d:Int)∈l.take k then c d else g d
theorem q2A(c g:Nat->Int)(l:List Int)(k n:Nat)(h:l[k]?=some (n:Int))(d:Nat):ovr c g l (k+1) d=if d=n then c d else ovr c g l k d:=by
 unfold ovr;rw[qbc,h];by_cases e:d=n
 ·subst e;simp
 ·have:¬ ((d:Int)=n):=by omega
  simp[e,this]
theorem piece4(lo hi:Nat)(t:Nat->q58)(w0 w:q3g)(R:Act->q3g->Prop)(A V:Nat)(av vv:q58)(N i:Nat)(c:Nat->Nat->Int)(wl:List Int)(B1 B2:Nat)(g h:Nat->Int)
  (h2:t 2=.pointer (some ⟨A,0,none⟩)) (hA:w0.cell? ⟨A,0,none⟩=some av) (hC:kT lo hi w0 av N c) (h5:t 5=.pointer (some ⟨V,0,none⟩)) (hV:w0.cell? ⟨V,0,none⟩=some vv) (hI:qe lo hi w0 vv wl)
  (h7:t 7=.int .i64 i) (l7:i<N) (h8:t 8=.pointer (some ⟨B1,0,none⟩)) (h9:t 9=.pointer (some ⟨B2,0,none⟩)) (hg:w0.grownBy w none) (a6:w.heap[B1]?=some (qE g)) (Z:w.heap[B2]?=some (qE h)) (hne:B1≠B2)
  (hb1:w0.heap.size<=B1) (n9:w0.heap.size<=B2) (hhi:hi<=w0.heap.size) (hx:∀x∈wl,0<=x/\x<5)
  (hR:∀(l6 l5 l4 k9 k8 k7 k6 k5 k0 g9 g8 g7 g6 g5 e9 e8 e7 e6 e5 e4 d9 d8 d7 d6:q58) w',w0.grownBy w' none->w'.heap[B1]?=some (qE (ovr (c i) g wl wl.length))->w'.heap[B2]?=some (qE (ovr (c i) h wl wl.length)) ->
   R ⟨#[t 0,t 1,.pointer (some ⟨A,0,none⟩),t 3,t 4,.pointer (some ⟨V,0,none⟩),t 6,.int .i64 i,.pointer (some ⟨B1,0,none⟩),.pointer (some ⟨B2,0,none⟩),t 10,l6,t 12,t 13,t 14,t 15,t 16,t 17,t 18,t 19,t 20,t 21,t 22,t 23,t 24,l5,l4,k9,k8,k7,k6,k5,k0,g9,g8,g7,g6,g5,e9,e8,e7,e6,e5,e4,d9,d8,d7,d6,t 48,t 49,t 50,t 51,t 52,t 53,t 54,t 55,t 56,t 57,t 58,t 59],[]⟩ w') :
  wR4.wp Tryp.prog (yg R) ⟨#[t 0,t 1,t 2,t 3,t 4,t 5,t 6,t 7,t 8,t 9,t 10,t 11,t 12,t 13,t 14,t 15,t 16,t 17,t 18,t 19,t 20,t 21,t 22,t 23,t 24,t 25,t 26,t 27,t 28,t 29,t 30,t 31,t 32,t 33,t 34,t 35,t 36,t 37,t 38,t 39,t 40,t 41,t 42,t 43,t 44,t 45,t 46,t 47,t 48,t 49,t 50,t 51,t 52,t 53,t 54,t 55,t 56,t 57,t 58,t 59],[]⟩ w:=by
 obtain⟨ab,ac,rfl,hN,c8⟩:=hC;obtain⟨vb,vc,rfl,hq,c3⟩:=hI.cell;obtain⟨AB,ao,p7,p5,p6,rfl,n3,n2,b6,b0⟩:=c8 (by omega);have HR:=q1D hR;have HI:=q1D c3;have HX:=q1D hx;have HA:=q1D hA;have HV:=q1D hV;have HC:=q1D (q8D b6 b0);have m5:=q1D a6;have m4:=q1D Z;have HG:=q1D hg;have p4:A<w0.heap.size:=Go.block_lt_of_cell hA;have p3:V<w0.heap.size:=Go.block_lt_of_cell hV;clear hR hI c3 c8 hx a6 Z b6 b0;rw[h2,h5,h7,h8,h9];clear h2 h5 h7 h8 h9;simp only[wR4,jG,Tryz.f139,q88,sqA,sqB,inn];have v0:=hg.cell hV (by simp);clear hA hV hg;go_wp2;clear v0;go_loopw [27] (λiv wr=>∃k:Nat,iv=.int .i64 k/\k<=wl.length/\w0.grownBy wr none/\wr.heap[B1]?=some (qE (ovr (c i) g wl k))/\wr.heap[B2]?=some (qE (ovr (c i) h wl k))) (λiv _=>(wl.length - qb2 iv).toNat)
 case atStart=>exact⟨0,rfl,by omega,HG.out,by rw[m5.out];first | (congr 1;done) | (congr 1;exact yu λd _=>by simp[ovr]),by rw[m4.out];first | (congr 1;done) | (congr 1;exact yu λd _=>by simp[ovr])⟩
 case round =>
  obtain⟨k,rfl,hk,hG,a6,Z⟩:=hrel;have d5:=q1D hG;have b8:=q1D a6;have b7:=q1D Z;have a0:=hG.cell HA.out (by simp);have v0:=hG.cell HV.out (by simp);have n8:=(q45.1 a6).1;have n7:=(q45.1 Z).1;have hsz:=hG.size;by_cases hlt:k<wl.length
  ·obtain⟨VB,vo,rfl,m9,m8,m7,a9⟩:=HI.out (by intro e;rw[e] at hlt;simp at hlt)
   have x0:=hG.cell (a9 k hlt) (by simp);obtain⟨x,a8⟩:∃x,wl[k]?=some x:=⟨_,q7C hlt⟩
   obtain⟨n6,n4⟩:=HX.out x (q8z a8);rw[a8] at x0;simp only[q88] at x0;obtain⟨n,rfl⟩:∃n:Nat,x=n:=⟨x.toNat,by omega⟩
   have a7:n<5:=by omega
   have b9:w0.cell? ⟨AB,ao+i*5+n,none⟩=some (.int .i64 (c i n)):=qa HC.out.1 (HC.out.2 i l7 n a7);have c0:=hG.cell b9 (by simp);have d1:=ql a6 a7;have d2:=ql Z a7;have f1:=jm a6;have f2:=jm Z;have c9:=q1D a8;clear a9 a8 hG a6 Z b9;go_upto_region 7 with(fail)
   have hin:(i:Int)<(N:Int):=by omega
   have m6:(n:Int)<5:=by omega
   have R1:((wr.setCell ⟨B1,n,none⟩ (.int .i64 (c i n))).setCell ⟨B2,n,none⟩ (.int .i64 (c i n))).heap[B1]?=some (qE (ovr (c i) g wl (k+1))):=by
    refine(blk (qg _ B2 _ _) (by simp;exact hne) (xO b8.out a7)).trans ?_
    congr 1
    exact yu λd _=>by rw[q2A _ _ _ _ n c9.out];split<;>simp_all
   have R2:((wr.setCell ⟨B1,n,none⟩ (.int .i64 (c i n))).setCell ⟨B2,n,none⟩ (.int .i64 (c i n))).heap[B2]?=some (qE (ovr (c i) h wl (k+1))):=by
    refine(xO (blk (qg _ B1 _ _) (by simp;omega) b7.out) a7).trans ?_
    congr 1
    exact yu λd _=>by rw[q2A _ _ _ _ n c9.out];split<;>simp_all
   have RG:w0.grownBy ((wr.setCell ⟨B1,n,none⟩ (.int .i64 (c i n))).setCell ⟨B2,n,none⟩ (.int .i64 (c i n))).drew none :=
    ((d5.out.andThen (row':=some B1) (qg _ _ _ _) (by rintro j e;cases e;exact .inl (by omega))).andThen (row':=some B2) (qg _ _ _ _) (by rintro j e;cases e;exact .inl (by omega))).trans (qc _ _)
   have m3:=q1D R1;have l9:=q1D R2;have l8:=q1D RG;clear R1 R2 RG;go_region_law (fail);all_goals
    clear a0 x0 c0 d1 d2 f1 f2;go_wp2;go_roundw
    case rel=>exact⟨k+1,by simp,by omega,l8.out,m3.out,l9.out⟩
    case measure=>simp[qb2];omega
  ·obtain rfl:k=wl.length:=by omega
   clear hG a6 Z a0 v0;go_wp2;exact HR.out _ _ _ _ _ _ _ _ _ _ _ _ _ _ _ _ _ _ _ _ _ _ _ _ wr d5.out b8.out b7.out
theorem piece9(lo hi:Nat)(t:Nat->q58)(w0 w:q3g)(R:Act->q3g->Prop)(Y V:Nat)(yb:Option qb9)(yc:Nat)(vv:q58)(ps:List Par)(lim:Int)(l:List Int)(B1 B2:Nat)(g h:Nat->Int)
  (h4:t 4=.pointer (some ⟨Y,0,none⟩)) (c8:w0.cell? ⟨Y,0,none⟩=some (.slice yb ps.length yc)) (c3:w0.cell? ⟨Y,1,none⟩=some (.int .i64 lim)) (hP:qr lo hi w0 (.slice yb ps.length yc) ps)
  (h6:t 6=.pointer (some ⟨V,0,none⟩)) (hV:w0.cell? ⟨V,0,none⟩=some vv) (hI:qe lo hi w0 vv l)
  (h8:t 8=.pointer (some ⟨B1,0,none⟩)) (h9:t 9=.pointer (some ⟨B2,0,none⟩)) (hg:w0.grownBy w none) (a6:w.heap[B1]?=some (qE g)) (c9:w.heap[B2]?=some (qE h))
  (hhi:hi<=w0.heap.size) (b7:ps.length<=5) (hx:∀x∈l,0<=x/\x<ps.length) (hl:l.length<=1000) (hgb:∀i,0<=g i/\g i<=1000) (b8:∀i,0<=h i/\h i<=1000)
  (hR:∀(g6 g5 e9 e8 e7 e6 e5 e4 d9 d8:q58) w',w.grownBy w' none->R ⟨#[t 0,t 1,t 2,t 3,.pointer (some ⟨Y,0,none⟩),t 5,.pointer (some ⟨V,0,none⟩),t 7,.pointer (some ⟨B1,0,none⟩),.pointer (some ⟨B2,0,none⟩),t 10,t 11,t 12,t 13,t 14,t 15,t 16,t 17,t 18,t 19,t 20,t 21,t 22,t 23,t 24,t 25,t 26,t 27,t 28,t 29,t 30,t 31,t 32,t 33,t 34,t 35,t 36,t 37,t 38,t 39,t 40,t 41,t 42,t 43,t 44,t 45,t 46,t 47,g6,g5,e9,e8,e7,e6,e5,e4,d9,d8,.bool (qw ps g l && !qw ps h l),t 59],[]⟩ w') :
  wR9.wp Tryp.prog (yg R) ⟨#[t 0,t 1,t 2,t 3,t 4,t 5,t 6,t 7,t 8,t 9,t 10,t 11,t 12,t 13,t 14,t 15,t 16,t 17,t 18,t 19,t 20,t 21,t 22,t 23,t 24,t 25,t 26,t 27,t 28,t 29,t 30,t 31,t 32,t 33,t 34,t 35,t 36,t 37,t 38,t 39,t 40,t 41,t 42,t 43,t 44,t 45,t 46,t 47,t 48,t 49,t 50,t 51,t 52,t 53,t 54,t 55,t 56,t 57,t 58,t 59],[]⟩ w:=by
 obtain⟨vb,vc,rfl,hq,-⟩:=hI.cell;have HR:=q1D hR;have HI:=q1D (hI.kept hg (by simp));have HP:=q1D (hP.kept hg (by simp));have HX:=q1D hx;have d6:=q1D hgb;have k0:=q1D b8;have a7:=q1D c9;have y0:=hg.cell c8 (by simp);have y1:=hg.cell c3 (by simp);have v0:=hg.cell hV (by simp);have k5:=hg.size;have a0:=ql a6 (show 0<5 by omega);have a1:=ql a6 (show 1<5 by omega);have a2:=ql a6 (show 2<5 by omega);have a3:=ql a6 (show 3<5 by omega);have a4:=ql a6 (show 4<5 by omega);rw[h4,h6,h8,h9];have SC:=q1D (q8D y0 (q8D y1 v0));clear hR hI hP hx hgb b8 c9 c8 c3 hV hg h4 h6 h8 h9 a6;simp only[wR9,jG,Tryz.f139,q88,sqA,sqB,inn];obtain⟨s1,b6⟩:∃s1,qw ps g l=s1:=⟨_,rfl⟩
 obtain⟨s2,a9⟩:∃s2,qw ps h l=s2:=⟨_,rfl⟩
 rw[b6,a9] at HR;have d5:=q1D b6;have g7:=q1D a9;clear b6 a9;cases s1
 ·go_wp2_with fail
  refine(kl lo hi _ _ ps lim l g _ ⟨_,rfl,HP.out⟩ HI.out (by omega) b7 HX.out hl d6.out).mono ?_;rintro e w5 ⟨rfl,Z⟩;rw[d5.out];have a8:=q1D Z;clear Z y0 y1 v0 a0 a1 a2 a3 a4;go_wp2;exact HR.out _ _ _ _ _ _ _ _ _ _ _ a8.out
 ·go_wp2_with fail
  refine(kl lo hi _ _ ps lim l g _ ⟨_,rfl,HP.out⟩ HI.out (by omega) b7 HX.out hl d6.out).mono ?_;rintro e w5 ⟨rfl,Z⟩;rw[d5.out];have b0:=ql (blk Z (by simp) a7.out) (show 0<5 by omega);have b1:=ql (blk Z (by simp) a7.out) (show 1<5 by omega);have b2:=ql (blk Z (by simp) a7.out) (show 2<5 by omega);have b3:=ql (blk Z (by simp) a7.out) (show 3<5 by omega);have b4:=ql (blk Z (by simp) a7.out) (show 4<5 by omega);have z0:=Z.cell SC.out.1 (by simp);have z1:=Z.cell SC.out.2.1 (by simp);have z2:=Z.cell SC.out.2.2 (by simp);have hz:=Z.size;have g8:=q1D (HP.out.kept Z (by simp));have g9:=q1D (HI.out.kept Z (by simp));have a8:=q1D Z;clear Z y0 y1 v0 a0 a1 a2 a3 a4;go_wp2_with fail;refine(kl lo hi _ _ ps lim l h _ ⟨_,rfl,g8.out⟩ g9.out (by omega) b7 HX.out hl k0.out).mono ?_;rintro e w6 ⟨rfl,b9⟩;rw[g7.out];have d7:=q1D b9;clear b9 b0 b1 b2 b3 b4 z0 z1 z2;cases s2
  ·go_wp2
   exact HR.out _ _ _ _ _ _ _ _ _ _ _ (a8.out.trans d7.out)
  ·go_wp2
   exact HR.out _ _ _ _ _ _ _ _ _ _ _ (a8.out.trans d7.out)
end Go.Proofs.YtidgnkmjgioapaaGreat
end
section
namespace Go.Proofs.YtidgnkmjgioapaaGreat
open Go Go.RowKit Go.Conc Go.ConcN Go.ConcN.Gen Go.Conc.Lib Go.ConcR.Gen Go.Co Go.Sim
def qJ:qcm->Array qbz | .region _ ops _=>ops | _=>#[]
noncomputable def wLB:qcm:=inn (inn (sqB (Tryz.f139.body.getD .skip)))
noncomputable def ops1:Array qbz:=qJ (sqA jG)
noncomputable def ops2:Array qbz:=qJ (sqA (sqA (sqB jG)))
noncomputable def QP:Array qbz:=qJ (sqA (sqB (Tryz.f141.body.getD .skip)))
noncomputable def QO:Array qbz:=qJ (sqA (sqB (Tryz.f142.body.getD .skip)))
noncomputable def Js:Array qbz:=qJ (Tryz.f143.body.getD .skip)
noncomputable def ju:List qdy:=[.inLoop wLB,.inBlock 0]
def pt(b:Nat):q58:=.pointer (some ⟨b,0,none⟩)
noncomputable def f1(tm:Array q58)(D:List qc3):q8c:=(qbs 139).at ⟨tm,D⟩ (.inRegion ops1 [0,1,2]::.code (sqB jG)::.inBlock 1::ju)
theorem Ys(x:Array q58)(h:x.size=60):∃y0 y1 y2 y3 y4 y5 y6 y7 y8 y9 y10 y11 y12 y13 y14 y15 y16 y17 y18 y19 y20 y21 y22 y23 y24 y25 y26 y27 y28 y29 y30 y31 y32 y33 y34 y35 y36 y37 y38 y39 y40 y41 y42 y43 y44 y45 y46 y47 y48 y49 y50 y51 y52 y53 y54 y55 y56 y57 y58 y59,x=#[y0,y1,y2,y3,y4,y5,y6,y7,y8,y9,y10,y11,y12,y13,y14,y15,y16,y17,y18,y19,y20,y21,y22,y23,y24,y25,y26,y27,y28,y29,y30,y31,y32,y33,y34,y35,y36,y37,y38,y39,y40,y41,y42,y43,y44,y45,y46,y47,y48,y49,y50,y51,y52,y53,y54,y55,y56,y57,y58,y59]:=by
 have e:=Ql x;rw[h] at e;exact⟨_,_,_,_,_,_,_,_,_,_,_,_,_,_,_,_,_,_,_,_,_,_,_,_,_,_,_,_,_,_,_,_,_,_,_,_,_,_,_,_,_,_,_,_,_,_,_,_,_,_,_,_,_,_,_,_,_,_,_,_,e.trans rfl⟩
theorem q3t{Fz S:Bs}{A o size:Nat}(h:Fz A)(hs:A<size):EvC Fz S size ⟨.cell ⟨A,o,none⟩,false,Mode.plain == Mode.atomic⟩:=by
 refine⟨⟨by simp,by simp,by simp⟩,λm hm=>by simp at hm,λx hx b hb=>?_⟩;have hx':x=⟨.cell ⟨A,o,none⟩,false,.plain⟩:=by
  have e:(Mode.plain == Mode.atomic)=false:=by decide
  rw[e] at hx;simp[qbv,qcj] at hx;exact hx.symm
 subst hx';simp only[Go.Co.blk,qaz] at hb;subst hb;exact⟨hs,rfl,.inr ⟨h,rfl⟩⟩
noncomputable def c20:qcm:=sqB (sqA (sqB jG))
noncomputable def wX:qcm:=sqB (sqB jG)
noncomputable def f2(tm:Array q58)(D:List qc3):q8c:=(qbs 139).at ⟨tm,D⟩ (.inRegion ops2 [5,6]::.code c20::.code wX::.inBlock 1::ju)
section
variable{Fz:Bs}{K:q3g->q3g->Prop}{Stop:Bs->q5r->q3g->Prop}{S:Bs}(hK:∀a b c,K a b->K b c->K a c)
include hK
theorem scriptA{tm:Array q58}{D:List qc3}{real:List q8c}{Nx:Nat}{w:q3g}(h1:tm[1]?.getD q5s=pt Nx)
  (hstop:∀w₁,RC Fz K S w w₁->Stop S (G ((q9v 141).at ⟨#[pt Nx,.int .i64 1,q5s,q5s,.int .i64 0,pt Nx,pt Nx,pt Nx,.int .i64 1,q5s],[]⟩ [.inRegion QP [4,5],.code .ret]) (f1 tm D::real)) w₁) :
  qk q8v Fz K Stop S (G ((qbs 139).at ⟨tm,D⟩ (.code wLB::ju)) real) w:=by
 simp only[f1,ops1,QP,wLB,jG,ju,Tryz.f139,Tryz.f141,q88,sqA,sqB,inn,qJ] at hstop ⊢;refine qk.block hK ?_;refine qk.seq hK ?_;refine qk.region hK ?_;simp only[qa0,q8l,q9k,q9F,q9m,qa4,qb6];refine qk.enter hK rfl rfl (by k_ne) rfl Tryz.func141 (by kernel_rfl) rfl ?_
 walk_nrmf Tryz.f141
 rw[h1];simp only[pt] at hstop ⊢;refine qk.seq hK ?_;refine qk.region hK ?_;simp only[qa0,q8l,q9k,q9F,q9m,qa4,qb6];refine qk.value hK (.int .i64 0) rfl rfl (by k_ne) (λ_=>by go_simp) (λ_=>by simp[go_sem]) ?_;walk_nrm;refine qk.region_end hK ?_;refine qk.seq hK ?_;refine qk.region hK ?_;simp only[qa0,q8l,q9k,q9F,q9m,qa4,qb6];refine qk.value hK (.pointer (some ⟨Nx,0,none⟩)) rfl rfl (by k_ne) (λ_=>by go_simp) (λ_=>by simp[go_sem]) ?_;walk_nrm;refine qk.value hK (.pointer (some ⟨Nx,0,none⟩)) rfl rfl (by k_ne) (λ_=>by go_simp) (λ_=>by simp[go_sem]) ?_;walk_nrm;refine qk.value hK (.pointer (some ⟨Nx,0,none⟩)) rfl rfl (by k_ne) (λ_=>by go_simp) (λ_=>by simp[go_sem]) ?_;walk_nrm;refine qk.value hK (.int .i64 1) rfl rfl (by k_ne) (λ_=>by go_simp) (λ_=>by simp[go_sem]) ?_;walk_nrm;exact qk.stop hstop
theorem scriptB[JunkSet]{tm:Array q58}(hsz:tm.size=60){D:List qc3}{real:List q8c}{Nx Fd A i N:Nat}{av:q58}{ab:Option qb9}{ac:Nat}{w:q3g}(h2:tm[2]?.getD q5s=pt A)(h3:tm[3]?.getD q5s=pt Fd)(hA:∀w₁,RC Fz K S w w₁->w₁.cell? ⟨A,0,none⟩=some (.slice ab N ac))(a6:Fz A)(Z:A<w.heap.size)(hi:i<N)(hN:N<=1000000)
  (hstop:∀w₁,RC Fz K S w w₁->Stop S (G ((q9v 142).at ⟨#[pt Fd,q5s,.bool false,pt Fd,pt Fd,pt Fd,q5s,q5s],[]⟩ [.inRegion QO [3,4,5],.code .ret])
   (f2 ((((((((tm.setIfInBounds 12 (.int .i64 (i+1))).setIfInBounds 13 (.int .i64 i)).setIfInBounds 7 (.int .i64 i)).setIfInBounds 14 (.int .i64 i)).setIfInBounds 15 (.slice ab N ac)).setIfInBounds 16 (.int .i64 N)).setIfInBounds 17 (.bool false)).setIfInBounds 18 (.bool false)) D::real)) w₁) :
  qk q8v Fz K Stop S (G ((q9v 141).at ⟨#[pt Nx,.int .i64 1,q5s,q5s,.int .i64 0,pt Nx,pt Nx,pt Nx,.int .i64 1,.int .i64 (i+1)],[]⟩ [.inRegion QP [5],.code .ret]) (f1 tm D::real)) w:=by
 obtain⟨y0,y1,y2,y3,y4,y5,y6,y7,y8,y9,y10,y11,y12,y13,y14,y15,y16,y17,y18,y19,y20,y21,y22,y23,y24,y25,y26,y27,y28,y29,y30,y31,y32,y33,y34,y35,y36,y37,y38,y39,y40,y41,y42,y43,y44,y45,y46,y47,y48,y49,y50,y51,y52,y53,y54,y55,y56,y57,y58,y59,rfl⟩:=Ys tm hsz;simp only[f1,f2,c20,wX,ops1,ops2,QP,QO,wLB,jG,ju,Tryz.f139,Tryz.f141,Tryz.f142,q88,sqA,sqB,inn,qJ] at hstop ⊢;simp at h2 h3;subst h2 h3;simp only[List.setIfInBounds_toArray,List.set_cons_succ,List.set_cons_zero] at hstop;simp only[pt] at hstop ⊢;have a7:IntKind.i64.wrap (i:Int)=i:=qa7 _ (by omega);refine qk.value hK (.int .i64 (i+1)) rfl rfl (by k_ne) (λ_=>by go_simp) (λ_=>by simp[go_sem]) ?_;walk_nrm;refine qk.region_end hK ?_;refine qk.retS hK ?_;refine qk.leave1 hK rfl rfl Tryz.func141 rfl ?_;walk_nrm;refine qk.value hK (.int .i64 i) rfl rfl (by k_ne) (λ_=>by go_simp) (λ_=>by simp[go_sem]) ?_;walk_nrm;refine qk.value hK (.int .i64 i) rfl rfl (by k_ne) (λ_=>by go_simp) (λ_=>by simp[go_sem]) ?_;walk_nrm;refine qk.region_end hK ?_;refine qk.seq hK ?_;refine qk.seq hK ?_;refine qk.region hK ?_;simp only[qa0,q8l,q9k,q9F,q9m,qa4,qb6];refine qk.value hK (.int .i64 i) rfl rfl (by k_ne) (λ_=>by go_simp) (λ_=>by simp[go_sem]) ?_;walk_nrm;refine qk.load hK (.slice ab N ac) rfl rfl (by k_ne) (λw₁ h₁=>?_) ?_
 ·have hc:=hA w₁ h₁
  refine⟨by go_simp,λe he=>?_⟩;simp[go_sem,hc] at he;rw[he];exact q3t a6 (q8m Z h₁.size)
 walk_nrm;refine qk.value hK (.int .i64 N) rfl rfl (by k_ne) (λ_=>by go_simp) (λ_=>by simp[go_sem]) ?_;walk_nrm;refine qk.value hK (.bool false) rfl rfl (by k_ne) (λ_=>by go_simp) (λ_=>by simp[go_sem]) ?_;walk_nrm;refine qk.value hK (.bool false) rfl rfl (by k_ne) (λ_=>by go_simp) (λ_=>by simp[go_sem]) ?_;walk_nrm;refine qk.enter hK rfl rfl (by k_ne) rfl Tryz.func142 (by kernel_rfl) rfl ?_
 walk_nrmf Tryz.f142
 refine qk.seq hK ?_;refine qk.region hK ?_;simp only[qa0,q8l,q9k,q9F,q9m,qa4,qb6];refine qk.value hK (.bool false) rfl rfl (by k_ne) (λ_=>by go_simp) (λ_=>by simp[go_sem]) ?_;walk_nrm;refine qk.region_end hK ?_;refine qk.seq hK ?_;refine qk.region hK ?_;simp only[qa0,q8l,q9k,q9F,q9m,qa4,qb6];refine qk.value hK (.pointer (some ⟨Fd,0,none⟩)) rfl rfl (by k_ne) (λ_=>by go_simp) (λ_=>by simp[go_sem]) ?_;walk_nrm;refine qk.value hK (.pointer (some ⟨Fd,0,none⟩)) rfl rfl (by k_ne) (λ_=>by go_simp) (λ_=>by simp[go_sem]) ?_;walk_nrm;refine qk.value hK (.pointer (some ⟨Fd,0,none⟩)) rfl rfl (by k_ne) (λ_=>by go_simp) (λ_=>by simp[go_sem]) ?_;walk_nrm;exact qk.stop hstop
end
end Go.Proofs.YtidgnkmjgioapaaGreat
end
section
namespace Go.Proofs.YtidgnkmjgioapaaGreat
open Go Go.RowKit Go.Conc Go.ConcN Go.ConcN.Gen Go.Conc.Lib Go.ConcR.Gen Go.Co Go.Sim
noncomputable def bot:q8c:={ (default:q8c) with fn:=Tryz.prog.funcs.size,mode:=.panicking [goexitEntry] }
def dn(Wg:Nat):List qc3:=[Go.Conc.dcall 140 #[pt Wg]]
section
variable{Fz:Bs}{K:q3g->q3g->Prop}{Stop:Bs->q5r->q3g->Prop}{S:Bs}(hK:∀a b c,K a b->K b c->K a c)
include hK
theorem q9h[JunkSet]{tm:Array q58}(hsz:tm.size=60){D:List qc3}{real:List q8c}{Nx A i N:Nat}{ab:Option qb9}{ac:Nat}{w:q3g}(h2:tm[2]?.getD q5s=pt A)(hA:∀w₁,RC Fz K S w w₁->w₁.cell? ⟨A,0,none⟩=some (.slice ab N ac))(a6:Fz A)(Z:A<w.heap.size)(hi:N<=i)(hN:i<=1000000)
  (hend:∀tm todo,qk q8v Fz K Stop S (G { (qbs 139).at ⟨tm,D⟩ todo with mode:=.returning } real) w) :
  qk q8v Fz K Stop S (G ((q9v 141).at ⟨#[pt Nx,.int .i64 1,q5s,q5s,.int .i64 0,pt Nx,pt Nx,pt Nx,.int .i64 1,.int .i64 (i+1)],[]⟩ [.inRegion QP [5],.code .ret]) (f1 tm D::real)) w:=by
 obtain⟨y0,y1,y2,y3,y4,y5,y6,y7,y8,y9,y10,y11,y12,y13,y14,y15,y16,y17,y18,y19,y20,y21,y22,y23,y24,y25,y26,y27,y28,y29,y30,y31,y32,y33,y34,y35,y36,y37,y38,y39,y40,y41,y42,y43,y44,y45,y46,y47,y48,y49,y50,y51,y52,y53,y54,y55,y56,y57,y58,y59,rfl⟩:=Ys tm hsz;simp only[f1,ops1,ops2,QP,wLB,jG,ju,Tryz.f139,Tryz.f141,q88,sqA,sqB,inn,qJ];simp at h2;subst h2;simp only[pt];have a8:IntKind.i64.wrap (i:Int)=i:=qa7 _ (by omega);have hge:decide ((N:Int)<=(i:Int))=true:=by simp;omega
 have a7:decide (N<=i)=true:=by simp;omega
 refine qk.value hK (.int .i64 (i+1)) rfl rfl (by k_ne) (λ_=>by go_simp) (λ_=>by simp[go_sem]) ?_;walk_nrm;refine qk.region_end hK ?_;refine qk.retS hK ?_;refine qk.leave1 hK rfl rfl Tryz.func141 rfl ?_;walk_nrm;refine qk.value hK (.int .i64 i) rfl rfl (by k_ne) (λ_=>by go_simp) (λ_=>by simp[go_sem]) ?_;walk_nrm;refine qk.value hK (.int .i64 i) rfl rfl (by k_ne) (λ_=>by go_simp) (λ_=>by simp[go_sem]) ?_;walk_nrm;refine qk.region_end hK ?_;refine qk.seq hK ?_;refine qk.seq hK ?_;refine qk.region hK ?_;simp only[qa0,q8l,q9k,q9F,q9m,qa4,qb6];refine qk.value hK (.int .i64 i) rfl rfl (by k_ne) (λ_=>by go_simp) (λ_=>by simp[go_sem]) ?_;walk_nrm;refine qk.load hK (.slice ab N ac) rfl rfl (by k_ne) (λw₁ h₁=>?_) ?_
 ·have hc:=hA w₁ h₁
  refine⟨by go_simp,λe he=>?_⟩;simp[go_sem,hc] at he;rw[he];exact q3t a6 (q8m Z h₁.size)
 walk_nrm;refine qk.value hK (.int .i64 N) rfl rfl (by k_ne) (λ_=>by go_simp) (λ_=>by simp[go_sem]) ?_;walk_nrm;refine qk.value hK (.bool true) rfl rfl (by k_ne) (λ_=>by go_simp) (λ_=>by simp[go_sem]) ?_;walk_nrm;refine qk.value hK (.bool true) rfl rfl (by k_ne) (λ_=>by go_simp) (λ_=>by simp[go_sem]) ?_;walk_nrm;refine qk.unwanted hK rfl rfl ?_;walk_nrm;refine qk.value hK (.bool true) rfl rfl (by k_ne) (λ_=>by go_simp) (λ_=>by simp[go_sem]) ?_;walk_nrm;refine qk.region_end hK ?_;refine qk.cond hK true rfl ?_;simp only[if_true];refine qk.retS hK ?_;exact hend _ _
theorem q9f{tm:Array q58}(hsz:tm.size=60){D:List qc3}{real:List q8c}{Fd:Nat}{w:q3g}(Z:tm[18]?.getD q5s=.bool false)
  (hend:∀tm todo,qk q8v Fz K Stop S (G { (qbs 139).at ⟨tm,D⟩ todo with mode:=.returning } real) w) :
  qk q8v Fz K Stop S (G ((q9v 142).at ⟨#[pt Fd,q5s,.bool false,pt Fd,pt Fd,pt Fd,.int .u32 1,q5s],[]⟩ [.inRegion QO [4,5],.code .ret]) (f2 tm D::real)) w:=by
 obtain⟨y0,y1,y2,y3,y4,y5,y6,y7,y8,y9,y10,y11,y12,y13,y14,y15,y16,y17,y18,y19,y20,y21,y22,y23,y24,y25,y26,y27,y28,y29,y30,y31,y32,y33,y34,y35,y36,y37,y38,y39,y40,y41,y42,y43,y44,y45,y46,y47,y48,y49,y50,y51,y52,y53,y54,y55,y56,y57,y58,y59,rfl⟩:=Ys tm hsz;simp only[f2,c20,wX,ops2,QO,wLB,jG,ju,Tryz.f139,Tryz.f142,q88,sqA,sqB,inn,qJ];simp at Z;subst Z;simp only[pt];refine qk.value hK (.bool true) rfl rfl (by k_ne) (λ_=>by go_simp) (λ_=>by simp[go_sem]) ?_;walk_nrm;refine qk.value hK (.bool true) rfl rfl (by k_ne) (λ_=>by go_simp) (λ_=>by simp[go_sem]) ?_;walk_nrm;refine qk.region_end hK ?_;refine qk.retS hK ?_;refine qk.leave1 hK rfl rfl Tryz.func142 rfl ?_;walk_nrm;refine qk.value hK (.bool true) rfl rfl (by k_ne) (λ_=>by go_simp) (λ_=>by simp[go_sem]) ?_;walk_nrm;refine qk.region_end hK ?_;refine qk.cond hK true rfl ?_;simp only[if_true];refine qk.retS hK ?_;exact hend _ _
theorem q9g{tm:Array q58}(hsz:tm.size=60){D:List qc3}{real:List q8c}{Fd:Nat}{w:q3g}(Z:tm[18]?.getD q5s=.bool false)
  (hend:qk q8v Fz K Stop S (G ((qbs 139).at ⟨(tm.setIfInBounds 19 (.bool false)).setIfInBounds 20 (.bool false),D⟩ (.code wX::.inBlock 1::ju)) real) w) :
  qk q8v Fz K Stop S (G ((q9v 142).at ⟨#[pt Fd,q5s,.bool false,pt Fd,pt Fd,pt Fd,.int .u32 0,q5s],[]⟩ [.inRegion QO [4,5],.code .ret]) (f2 tm D::real)) w:=by
 obtain⟨y0,y1,y2,y3,y4,y5,y6,y7,y8,y9,y10,y11,y12,y13,y14,y15,y16,y17,y18,y19,y20,y21,y22,y23,y24,y25,y26,y27,y28,y29,y30,y31,y32,y33,y34,y35,y36,y37,y38,y39,y40,y41,y42,y43,y44,y45,y46,y47,y48,y49,y50,y51,y52,y53,y54,y55,y56,y57,y58,y59,rfl⟩:=Ys tm hsz;simp only[f2,c20,wX,ops2,QO,wLB,jG,ju,Tryz.f139,Tryz.f142,q88,sqA,sqB,inn,qJ] at hend ⊢;simp at Z;subst Z;simp only[pt];simp only[List.setIfInBounds_toArray,List.set_cons_succ,List.set_cons_zero] at hend;refine qk.value hK (.bool false) rfl rfl (by k_ne) (λ_=>by go_simp) (λ_=>by simp[go_sem]) ?_;walk_nrm;refine qk.value hK (.bool false) rfl rfl (by k_ne) (λ_=>by go_simp) (λ_=>by simp[go_sem]) ?_;walk_nrm;refine qk.region_end hK ?_;refine qk.retS hK ?_;refine qk.leave1 hK rfl rfl Tryz.func142 rfl ?_;walk_nrm;refine qk.value hK (.bool false) rfl rfl (by k_ne) (λ_=>by go_simp) (λ_=>by simp[go_sem]) ?_;walk_nrm;refine qk.region_end hK ?_;refine qk.cond hK false rfl ?_;simp only[if_false,qa5];refine qk.skip hK ?_;exact hend
end
end Go.Proofs.YtidgnkmjgioapaaGreat
end
section
namespace Go.Proofs.YtidgnkmjgioapaaGreat
open Go Go.RowKit Go.Conc Go.ConcN Go.ConcN.Gen Go.Conc.Lib Go.ConcR.Gen Go.Co Go.Sim
noncomputable def wC10:qcm:=sqB (sqB (sqB (sqB (sqB jG))))
noncomputable def q4H:Array qbz:=qJ (match wC10 with | .cond _ r _=>r | c=>c)
noncomputable def f10(tm:Array q58)(D:List qc3):q8c:=(qbs 139).at ⟨tm,D⟩ (.inRegion q4H [0]::.inBlock 1::ju)
structure I14(Fd:Nat)(l:Array Bool)(a:Act):Prop where
 c1:l[1]?.getD false=true->l[0]?.getD false=true
 c2:l[2]?.getD false=true->l[1]?.getD false=true
 c4:l[4]?.getD false=true->l[3]?.getD false=true
 c5:l[5]?.getD false=false
 ac:∃T4 T5 T6 T7 T8,a=⟨#[.pointer (some ⟨Fd,0,none⟩),.bool true,q5s,q5s,T4,T5,T6,T7,T8,q5s],[]⟩/\(l[0]?.getD false=true->T4=.pointer (some ⟨Fd,0,none⟩))/\(l[1]?.getD false=true->T5=.pointer (some ⟨Fd,0,none⟩))/\(l[2]?.getD false=true->T6=.pointer (some ⟨Fd,0,none⟩))/\(l[3]?.getD false=true->T7=.bool true)/\(l[4]?.getD false=true->T8=.int .u32 1)
section
variable{Fz:Bs}{K:q3g->q3g->Prop}{Stop:Bs->q5r->q3g->Prop}{S:Bs}(hK:∀a b c,K a b->K b c->K a c)
include hK
theorem scriptN{tm:Array q58}(hsz:tm.size=60){D:List qc3}{real:List q8c}{w:q3g}(h58:tm[58]?.getD q5s=.bool false)
  (hend:qk q8v Fz K Stop S (G ((qbs 139).at ⟨tm,D⟩ (.code wLB::ju)) real) w) :
  qk q8v Fz K Stop S (G ((qbs 139).at ⟨tm,D⟩ (.code wC10::.inBlock 1::ju)) real) w:=by
 obtain⟨y0,y1,y2,y3,y4,y5,y6,y7,y8,y9,y10,y11,y12,y13,y14,y15,y16,y17,y18,y19,y20,y21,y22,y23,y24,y25,y26,y27,y28,y29,y30,y31,y32,y33,y34,y35,y36,y37,y38,y39,y40,y41,y42,y43,y44,y45,y46,y47,y48,y49,y50,y51,y52,y53,y54,y55,y56,y57,y58,y59,rfl⟩:=Ys tm hsz;simp only[wC10,wLB,jG,ju,Tryz.f139,q88,sqA,sqB,inn] at hend ⊢;simp at h58;subst h58;refine qk.cond hK false rfl ?_;simp only[if_false,qa5];refine qk.skip hK ?_;refine qk.inBlock hK ?_;refine qk.inLoop hK ?_;exact hend
theorem scriptD{tm:Array q58}{D:List qc3}{real:List q8c}{Fd:Nat}{w:q3g}
  (hend:qk q8v Fz K Stop S (G ((qbs 139).at ⟨tm.setIfInBounds 59 (.tuple #[]),D⟩ (.code wLB::ju)) real) w) :
  qk q8v Fz K Stop S (G ((q9v 143).at ⟨#[pt Fd,.bool true,q5s,q5s,pt Fd,pt Fd,pt Fd,.bool true,.int .u32 1,.tuple #[]],[]⟩ [.inRegion Js []]) (f10 tm D::real)) w:=by
 simp only[f10,q4H,Js,wC10,wLB,jG,ju,Tryz.f139,Tryz.f143,q88,sqA,sqB,inn,qJ] at hend ⊢;refine qk.region_end hK ?_;refine qk.endS hK ?_;refine qk.leave0 hK rfl rfl Tryz.func143 rfl ?_;refine qk.region_end hK ?_;refine qk.inBlock hK ?_;refine qk.inLoop hK ?_;exact hend
theorem scriptS(a9:∀w n,K w { w with drawn:=n }){tm:Array q58}(hsz:tm.size=60){D:List qc3}{real:List q8c}{Fd:Nat}{w:q3g}(h3:tm[3]?.getD q5s=pt Fd)(h58:tm[58]?.getD q5s=.bool true)
  (hstop:∀w₁,RC Fz K S w w₁->Stop S (G ((q9v 143).at ⟨#[pt Fd,.bool true,q5s,q5s,pt Fd,pt Fd,pt Fd,.bool true,.int .u32 1,q5s],[]⟩ [.inRegion Js [5]]) (f10 tm D::real)) w₁) :
  qk q8v Fz K Stop S (G ((qbs 139).at ⟨tm,D⟩ (.code wC10::.inBlock 1::ju)) real) w:=by
 obtain⟨y0,y1,y2,y3,y4,y5,y6,y7,y8,y9,y10,y11,y12,y13,y14,y15,y16,y17,y18,y19,y20,y21,y22,y23,y24,y25,y26,y27,y28,y29,y30,y31,y32,y33,y34,y35,y36,y37,y38,y39,y40,y41,y42,y43,y44,y45,y46,y47,y48,y49,y50,y51,y52,y53,y54,y55,y56,y57,y58,y59,rfl⟩:=Ys tm hsz;simp only[f10,q4H,Js,wC10,wLB,jG,ju,Tryz.f139,Tryz.f143,q88,sqA,sqB,inn,qJ] at hstop ⊢;simp at h3 h58;subst h3 h58;simp only[pt] at hstop ⊢;refine qk.cond hK true rfl ?_;simp only[if_true];refine qk.region hK ?_;simp only[qa0,q8l,q9k,q9F,q9m,qa4,qb6];refine qk.enter hK rfl rfl (by k_ne) rfl Tryz.func143 (by kernel_rfl) rfl ?_
 walk_nrmf Tryz.f143
 refine qk.region_inv hK (by kernel_rfl) a9 (I14 Fd) ?_ ?_ ?_
 ·exact⟨by simp,by simp,by simp,by simp,q5s,q5s,q5s,q5s,q5s,rfl,by simp,by simp,by simp,by simp,by simp⟩
 ·rintro l a i hl ⟨c1,c2,c4,c5,T4,T5,T6,T7,T8,rfl,k0,k1,k2,k3,k4⟩ hi rest a7 a6
  have a8:=(zZ hi).1;have b6:l.size=6:=hl;have gs:∀i j,i<6->(l.setIfInBounds i true)[j]?.getD false=if i=j then true else l[j]?.getD false:=λi j h=>Zp l i j (by omega);have b0:=Ym hi;have a8:i=0\/i=1\/i=2\/i=3\/i=4\/i=5:=by
   have:i<6:=a8;omega
  rcases a8 with rfl | rfl | rfl | rfl | rfl | rfl
  ·refine qk.value hK (.pointer (some ⟨Fd,0,none⟩)) rfl rfl (by k_ne) (λ_=>by go_simp) (λ_=>by simp[go_sem]) ?_
   walk_nrm;exact a6 _ ⟨by simp[gs],by simpa[gs] using λh=>(c2 h),by simpa[gs] using c4,by simpa[gs] using c5,_,T5,T6,T7,T8,rfl,λ_=>rfl,by simpa[gs] using k1,by simpa[gs] using k2,by simpa[gs] using k3,by simpa[gs] using k4⟩
  ·have Z:=zn hi rfl
   simp[qb8] at Z;obtain rfl:=k0 (by simp[Z]);refine qk.value hK (.pointer (some ⟨Fd,0,none⟩)) rfl rfl (by k_ne) (λ_=>by go_simp) (λ_=>by simp[go_sem]) ?_;walk_nrm;exact a6 _ ⟨by simp[gs,Z],by simp[gs],by simpa[gs] using c4,by simpa[gs] using c5,_,_,T6,T7,T8,rfl,λ_=>rfl,λ_=>rfl,by simpa[gs] using k2,by simpa[gs] using k3,by simpa[gs] using k4⟩
  ·have Z:=zn hi rfl
   simp[qb8] at Z;obtain rfl:=k1 (by simp[Z]);refine qk.value hK (.pointer (some ⟨Fd,0,none⟩)) rfl rfl (by k_ne) (λ_=>by go_simp) (λ_=>by simp[go_sem]) ?_;walk_nrm;exact a6 _ ⟨by simpa[gs] using c1,by simp[gs,Z],by simpa[gs] using c4,by simpa[gs] using c5,T4,_,_,T7,T8,rfl,by simpa[gs] using k0,λ_=>rfl,λ_=>rfl,by simpa[gs] using k3,by simpa[gs] using k4⟩
  ·refine qk.value hK (.bool true) rfl rfl (by k_ne) (λ_=>by go_simp) (λ_=>by simp[go_sem]) ?_
   walk_nrm;exact a6 _ ⟨by simpa[gs] using c1,by simpa[gs] using c2,by simp[gs],by simpa[gs] using c5,T4,T5,T6,_,T8,rfl,by simpa[gs] using k0,by simpa[gs] using k1,by simpa[gs] using k2,λ_=>rfl,by simpa[gs] using k4⟩
  ·have Z:=zn hi rfl
   simp[qb8] at Z;obtain rfl:=k3 (by simp[Z]);refine qk.enter hK rfl rfl (by k_ne) rfl Tryz.func182 (by kernel_rfl) rfl ?_
   walk_nrmf Tryz.f182
   refine qk.seq hK ?_;refine qk.region hK ?_;simp only[qa0,q8l,q9k,q9F,q9m,qa4,qb6];refine qk.value hK (.int .u32 0) rfl rfl (by k_ne) (λ_=>by go_simp) (λ_=>by simp[go_sem]) ?_;walk_nrm;refine qk.region_end hK ?_;refine qk.seq hK ?_;refine qk.seq hK ?_;refine qk.region hK ?_;simp only[qa0,q8l,q9k,q9F,q9m,qa4,qb6];refine qk.value hK (.bool true) rfl rfl (by k_ne) (λ_=>by go_simp) (λ_=>by simp[go_sem]) ?_;walk_nrm;refine qk.region_end hK ?_;refine qk.cond hK true rfl ?_;simp only[if_true];refine qk.seq hK ?_;refine qk.region hK ?_;simp only[qa0,q8l,q9k,q9F,q9m,qa4,qb6];refine qk.value hK (.int .u32 1) rfl rfl (by k_ne) (λ_=>by go_simp) (λ_=>by simp[go_sem]) ?_;walk_nrm;refine qk.region_end hK ?_;refine qk.retS hK ?_;refine qk.leave1 hK rfl rfl Tryz.func182 rfl ?_;walk_nrm;exact a6 _ ⟨by simpa[gs] using c1,by simpa[gs] using c2,by simp[gs,Z],by simpa[gs] using c5,T4,T5,T6,_,_,rfl,by simpa[gs] using k0,by simpa[gs] using k1,by simpa[gs] using k2,λ_=>rfl,λ_=>rfl⟩
  ·have Z:=zn hi rfl
   simp[qb8] at Z;have d2:l[2]?.getD false=true:=by simp[Z]
   have d4:l[4]?.getD false=true:=by simp[Z]
   have d1:=c2 d2;have d0:=c1 d1;have d3:=c4 d4;obtain rfl:=k0 d0;obtain rfl:=k1 d1;obtain rfl:=k2 d2;obtain rfl:=k3 d3;obtain rfl:=k4 d4;have hr:rest=[]:=a7 (by
    simp only[q91,List.filter_eq_nil_iff,qcn,q9b,qcE,not_and];intro j hj hn;exfalso;have b7:j<6:=hj;have hjs:j<(l.setIfInBounds 5 true).size:=by simp;omega
    have e:(l.setIfInBounds 5 true)[j]?.getD false=true:=by
     rw[gs 5 j (by omega)];obtain rfl | rfl | rfl | rfl | rfl | rfl:j=0\/j=1\/j=2\/j=3\/j=4\/j=5:=by omega
     all_goals simp[d0,d1,d2,d3,d4]
    simp only[qbm,q9w hjs,q88] at hn e;rw[hn] at e;cases e)
   subst hr;exact qk.stop hstop
 ·rintro l a hl ⟨c1,c2,c4,c5,T4,T5,T6,T7,T8,rfl,k0,k1,k2,k3,k4⟩ hr
  have q0:=zQ hr hl (i:=0) rfl (by simp[qb8]);have q1:=zQ hr hl (i:=1) rfl (by simp[qb8,q0]);have q2:=zQ hr hl (i:=2) rfl (by simp[qb8,q1]);have q3:=zQ hr hl (i:=3) rfl (by simp[qb8]);have q4:=zQ hr hl (i:=4) rfl (by simp[qb8,q3]);have q5:=zQ hr hl (i:=5) rfl (by simp[qb8,q2,q4]);rw[c5] at q5;cases q5
end
end Go.Proofs.YtidgnkmjgioapaaGreat
end
section
namespace Go.Proofs.YtidgnkmjgioapaaGreat
open Go Go.RowKit Go.Conc Go.ConcN Go.ConcN.Gen Go.Conc.Lib Go.ConcR.Gen Go.Co Go.Sim
def jp(Wg Nx A Fd Y V B:Nat):Array q58:=#[pt Wg,pt Nx,pt A,pt Fd,pt Y,pt V,pt B]
def Kt(Wg Nx A Fd Y V B:Nat):qc3:={ target:=.fn (.func 139) (jp Wg Nx A Fd Y V B),args:=#[] }
def tm0(Wg Nx A Fd Y V B:Nat):Array q58:=#[pt Wg,pt Nx,pt A,pt Fd,pt Y,pt V,pt B]++qb4 53 q5s
section
variable{Fz:Bs}{K:q3g->q3g->Prop}{Stop:Bs->q5r->q3g->Prop}{S:Bs}(hK:∀a b c,K a b->K b c->K a c)
include hK
theorem q4A{Wg Nx A Fd Y V B:Nat}{w:q3g}(hend:qk q8v Fz K Stop S (G ((qbs 139).at ⟨tm0 Wg Nx A Fd Y V B,dn Wg⟩ (.code wLB::ju)) [bot]) w) :
  qk q8v Fz K Stop S (born q8v (Kt Wg Nx A Fd Y V B)) w:=by
 have hstep:∀w,qb7 q8v false (born q8v (Kt Wg Nx A Fd Y V B)) w=.go (G ((qbs 139).at ⟨tm0 Wg Nx A Fd Y V B,[]⟩ [.code (Tryz.f139.body.getD .skip)]) [bot]) w #[]:=by
  intro w;simp[born,Kt,jp,qb7,unwind,qc6,invoke,callFunc,Tryz.func139,Tryz.f139,seen,qbf,G,qan,Frame.at,qbs,bot,tm0];rfl
 refine qk.pure hK rfl hstep ?_;simp only[wLB,ju,Tryz.f139,q88,sqA,sqB,inn] at hend ⊢;refine qk.seq hK ?_;refine qk.region hK ?_;simp only[qa0,q8l,q9k,q9F,q9m,qa4,qb6];refine qk.pure hK rfl (λw=>stepG_defer rfl rfl (by k_ne) rfl) ?_;refine qk.region_end hK ?_;refine qk.block hK ?_;refine qk.loop hK ?_;have e:Act.put ⟨tm0 Wg Nx A Fd Y V B,[Go.Conc.dcall 140 (Array.map (Act.eval ⟨tm0 Wg Nx A Fd Y V B,[]⟩) #[Operand.tmp 0])]⟩ none q5s=⟨tm0 Wg Nx A Fd Y V B,dn Wg⟩:=by
  simp[Act.put,dn,Act.eval,tm0]
 rw[<- e] at hend;exact hend
end
end Go.Proofs.YtidgnkmjgioapaaGreat
end
section
namespace Go.Proofs.YtidgnkmjgioapaaGreat
open Go Go.RowKit Go.Conc Go.ConcN Go.ConcN.Gen Go.Conc.Lib Go.ConcR.Gen Go.Co Go.Sim
theorem q78(T:Array q58)(todo:List qdy):QuitsD q8v 2 0 (G { (qbs 139).at ⟨T,[]⟩ todo with mode:=.returning } [bot]):=by
 refine QuitsD.ctl (g':=G bot []) rfl (λw=>?_) ?_
 ·simp[G,qb7,unwind,qc9,results,Frame.at,qbs,bot,Tryz.func139,Tryz.f139,seen,qbf,goexitEntry]
  try rfl
 refine QuitsD.ctl (g':={ G bot [] with status:=.finished }) rfl (λw=>?_) ⟨rfl,rfl⟩;simp[G,qb7,unwind,bot,goexitEntry,Frame.catches];rfl
section
variable{Fz:Bs}{K:q3g->q3g->Prop}{Stop:Bs->q5r->q3g->Prop}{S:Bs}(hK:∀a b c,K a b->K b c->K a c)
include hK
theorem scriptE{Wg:Nat}{w:q3g}(hL:qcF 166 Wg w)(a6:∀w w₁,K w w₁->LR 166 Wg w w₁)(Z:∀g w,AtRl q8v 166 Wg g w->Stop S g w)(tm:Array q58)(todo:List qdy) :
  qk q8v Fz K Stop S (G { (qbs 139).at ⟨tm,dn Wg⟩ todo with mode:=.returning } [bot]) w:=by
 refine qk.pure hK rfl (λw=>stepG_unwind_enter (f:=140) (ds:=[]) rfl JL.f_done (nm_done link) rfl) ?_;have:=Go.Co.done (L:=link) (Wg:=Wg) (cs:=[bot]) (qt:=2) JL (c:={ (qbs 139).at ⟨tm,[]⟩ todo with mode:=.returning }) rfl (q78 tm todo) w hL;exact qk.of_goes2 (λa b h=>a6 a b h.k) (λw=>LR.refl w) Z this
end
end Go.Proofs.YtidgnkmjgioapaaGreat
end
section
namespace Go.Proofs.YtidgnkmjgioapaaGreat
open Go Go.Sim
def lst:List Nat:=[3,4,5,6,7,8,9,10,11,12,13,14,15,16,17,18,19,20,21,22,23,24,25,26,27,28,29,30,31,32,33,34,35,36,37,38,39,40,41,42,43,44,45,46,47,48,49,50,51,52,53,54,55,56,57,58,59,60,61,62,63,64,65,66,67,68,69,70,71,72,73,74,75,76,77,78,79,80,81,82,83,84,85,86,87,88,89,90,91,92,93,94,95,96,97,98,99,100,101,102,103,104,105,106,107,108,109,110,111,112,113,114,115,116,117,118,119,120,121,122,123,124,125,126,127,128,129,130,131,132,133,134,135,136,137,145,146,147,148,149,150,151,152,153,154,155,156,157,158,159,160,161,162,163,164,165,182,188,189,190,191,192,193,194,195,196,197,198,199,200,206,207,208,209,210,211,212,213,214,215,216,217,218,219,220,221,222,223,224,241,242]
noncomputable def ls:Lets:=⟨λf=>lst.contains f,λn=>n == "gladstone/pile.holds",λb ts=>biB Tryp.prog b ts⟩
theorem ls_f{f:Nat}(h:ls.f f=true):f∈lst:=by
 have:lst.contains f=true:=h;simpa using this
theorem chk_QP:(lst.all λf=>funC Tryp.prog q8v ls f)=true:=by kernel_rfl
theorem chk_QQ:(lst.all λf=>funC Tryp.prog Tryp.prog ls f)=true:=by kernel_rfl
theorem q3F:(lst.all λf=>bodyC Tryp.prog ls f)=true:=by kernel_rfl
def methB(Q:q8b)(s:Lets)(n:String)(t:Nat):Bool:=match Q.info? t with
 | none=>true
 | some i=>match i.methods.find? (·.name == n) with
  | none=>true
  | some m=>m.path.isEmpty && (match m.func with | some (f,b)=>s.f f && (b || (match Q.underlying t with | some (.pointer _)=>false | _=>true)) | none=>false)
theorem q2q{f:q8u->Option TypeInfo}{d:TypeDesc}{i:TypeInfo}(h:Made.reckon f d=some i):i.methods=#[]:=by
 unfold Made.reckon at h;split at h
 ·obtain⟨j,-,h⟩:=qba.1 h
  split at h
  ·cases h
  ·split at h
   ·cases h
   ·obtain⟨x,-,h⟩:=qba.1 h
    cases h;rfl
  ·obtain⟨x,-,h⟩:=qba.1 h
   cases h;rfl
 ·obtain⟨j,-,h⟩:=qba.1 h
  obtain⟨x,-,h⟩:=qba.1 h;cases h;rfl
 ·obtain⟨j,-,h⟩:=qba.1 h
  obtain⟨x,-,h⟩:=qba.1 h;obtain⟨x,-,h⟩:=qba.1 h;obtain⟨x,-,h⟩:=qba.1 h;cases h;rfl
 ·obtain⟨j,-,h⟩:=qba.1 h
  obtain⟨x,-,h⟩:=qba.1 h;cases h;rfl
 ·obtain⟨j,-,h⟩:=qba.1 h
  cases h;rfl
 ·obtain⟨j,-,h⟩:=qba.1 h
  obtain⟨x,-,h⟩:=qba.1 h;cases h;rfl
 ·unfold Made.reckonStruct at h
  obtain⟨r,-,h⟩:=qba.1 h;split at h<;>(dsimp only at h;split at h<;>(cases h;rfl))
 ·cases h
theorem q7n{P:q8b}{t:Nat}{i:TypeInfo}(h:P.info? t=some i):t<P.types.size\/i.methods=#[]:=by
 by_cases ht:t<P.types.size
 ·exact .inl ht
 ·have h':Tables.info? P.toTables t=some i:=h
  unfold Tables.info? at h';rw[if_neg ht] at h';unfold Made.depth Made.infoAt at h';rw[if_neg ht] at h';obtain⟨d,-,h2⟩:=qba.1 h';exact .inr (q2q h2)
theorem chk_m:((qa4 Tryp.prog.types.size).all (methB Tryp.prog ls "gladstone/pile.holds"))=true:=by kernel_rfl
theorem q66:∀n,ls.m n=true->∀t i m,Tryp.prog.info? t=some i->i.methods.find? (·.name == n)=some m->m.path=#[]/\∃f b,m.func=some (f,b)/\ls.f f=true/\∀e,Tryp.prog.underlying t=some (.pointer e)->b=true:=by
 intro n hn t i m hi hf;obtain rfl:n = "gladstone/pile.holds" := by simpa[ls] using hn
 have ht:t<Tryp.prog.types.size:=(q7n hi).resolve_right λe=>by rw[e] at hf;cases hf
 have h:=qau.1 chk_m t (qcn.2 ht);unfold methB at h;rw[hi] at h;dsimp only at h;rw[hf] at h;dsimp only at h;obtain⟨h1,h2⟩:=Bool.and_eq_true_iff.1 h;refine⟨by simpa using h1,?_⟩;cases hm:m.func with
 | none=>rw[hm] at h2;cases h2
 | some fb =>
  obtain⟨f,b⟩:=fb;rw[hm] at h2;dsimp only at h2;obtain⟨h3,h4⟩:=Bool.and_eq_true_iff.1 h2;refine⟨f,b,rfl,h3,λe he=>?_⟩;rw[he] at h4;simpa using h4
theorem ne85:Tryp.prog.funcs[85]?≠Tryz.prog.funcs[85]?:=by
 intro h;have h1:(Tryp.prog.funcs[85]?).map (λf=>f.body.isNone || (match f.body with | some (.exit _)=>true | _=>false))=some true:=by kernel_rfl
 rw[h] at h1;have h2:(Tryz.prog.funcs[85]?).map (λf=>f.body.isNone || (match f.body with | some (.exit _)=>true | _=>false))=some false:=by kernel_rfl
 rw[h2] at h1;cases h1
theorem zd(f:Nat)(h:f≠85):Tryp.prog.funcs[f]?=Tryz.prog.funcs[f]?:=by
 unfold Tryp.prog;dsimp only;rw[qav,if_neg (λe=>h e.symm)]
theorem duoQP(jk:Nat->Prop):@Duo (JS Tryp.prog q8v ls jk) Tryp.prog q8v:=by
 refine duo_of rfl (by kernel_rfl) (by kernel_rfl) (λb ts h=>h) (λf h=>?_) (λf h hs=>?_) q66
 ·exact qau.1 chk_QP f (ls_f h)
 ·exact qau.1 q3F f (ls_f h)
theorem duoQQ(jk:Nat->Prop):@Duo (JS Tryp.prog Tryp.prog ls jk) Tryp.prog Tryp.prog:=by
 refine duo_of rfl (by kernel_rfl) (by kernel_rfl) (λb ts h=>h) (λf h=>?_) (λf h hs=>?_) q66
 ·exact qau.1 chk_QQ f (ls_f h)
 ·exact qau.1 q3F f (ls_f h)
theorem up_of(Q P:q8b)(s:Lets)(jk:Nat->Prop):Up (JS Q P s jk) (JS Q Q s jk) :=
 ⟨λ_ h=>h,λ_ h=>h,λ_ _ h=>h,λ_ h=>h,λ_ ⟨⟨g,h1,_⟩,h2⟩=>⟨⟨g,h1,h1⟩,h2⟩,rfl⟩
theorem up(jk:Nat->Prop):Up (JS Tryp.prog q8v ls jk) (JS Tryp.prog Tryp.prog ls jk):=up_of _ _ _ _
theorem stub85:∀fk,Tryp.prog.funcs[fk]?≠Tryz.prog.funcs[fk]?->∀a k cs u,∃o w es,qb7 Tryp.prog true { frame:=qan Tryp.prog fk a k,callers:=cs,status:=.running,dying:=none } u true=.ended o w es:=by
 intro fk h a k cs u;have e:fk=85:=qbw λhn=>h (zd fk hn);subst e;have hb:(Tryp.prog.funcs[85]?).bind (·.body)=some (.exit 0):=by kernel_rfl
 unfold qan;dsimp only;rw[hb];exact⟨_,_,_,rfl⟩
theorem hrf:Tryz.prog.follows .rangeFuncRecover=true:=by kernel_rfl
end Go.Proofs.YtidgnkmjgioapaaGreat
end
section
namespace Go.Co
open Go Go.Sim
def frz:Obj->Obj
 | .cells c e f=>.cells c e (0,max c.size f.2)
 | _=>.cells #[] 0
noncomputable def J8(Q:q8b)(W:q3g)(nds jks:List Nat)(b:Nat):Obj :=
 if b∈jks then junk Q else if b∈nds then(match W.heap[b]? with | some o=>frz o | none=>.cells #[] 0) else .cells #[] 0
noncomputable def lw(Q:q8b)(W:q3g)(nds jks:List Nat):q3g:={ W with heap:=(Array.range W.heap.size).map (J8 Q W nds jks) }
def lr(n:Nat)(nds jks:List Nat):Ren:=(qa4 n).map λb=>if b∈nds\/b∈jks then some b else none
section
variable{Q:q8b}{W:q3g}{nds jks:List Nat}
theorem q67:(lw Q W nds jks).heap.size=W.heap.size:=by simp[lw]
theorem q1a{b:Nat}(h:b<W.heap.size):(lw Q W nds jks).heap[b]?=some (J8 Q W nds jks b):=by simp[lw,h]
theorem Jl{n i j:Nat}:BR (lr n nds jks) i j↔i<n/\i=j/\(i∈nds\/i∈jks):=by
 unfold BR lr;rw[List.getElem?_map];by_cases h:i<n
 ·rw[List.getElem?_range h]
  simp only[qbt,qaz,h,true_and];split
  ·rename_i hm;simp[hm]
  ·rename_i hm;simp[hm]
 ·rw[qd5 (by simp;omega)]
  simp[h]
theorem q69{b:Nat}{cs:Array q58}{e:q8u}{f:Nat × Nat}(hb:b∈nds)(hj:b∉jks)(h:W.heap[b]?=some (.cells cs e f)):(lw Q W nds jks).heap[b]?=some (.cells cs e (0,max cs.size f.2)):=by
 rw[q1a (q45.1 h).1];unfold J8;rw[if_neg hj,if_pos hb,h];rfl
theorem lw_wr[J:JunkSet]{w:q3g}(a6:∀i,JunkSet.jk i↔i∈jks)(hg:Q.globals.size=0)(hd:∀b∈nds,b∉jks)(hn:∀b∈nds,b<W.heap.size)(hj:∀b∈jks,b<W.heap.size)
  (hok:∀b∈nds,∃cs e f,W.heap[b]?=some (.cells cs e f)/\∀(i:Nat) (v:q58),cs[i]?=some v->VR (lr W.heap.size nds jks) v v)
  (hw:∀b∈nds,w.heap[b]?=W.heap[b]?) (hs:W.heap.size<=w.heap.size) (ho:w.os=W.os) (a7:∀b∈jks,∃c e f,w.heap[b]?=some (.cells c e f)) :
  WR Q W.heap.size (lr W.heap.size nds jks) (lw Q W nds jks) w where
 len:=by simp[lr,lw]
 nodup:=λi i' j h h'=>by rw[Jl] at h h';omega
 lt:=λi j h=>by rw[Jl] at h;omega
 obj:=λi j o h hx=>by
  rw[Jl] at h;obtain⟨h1,rfl,h2⟩:=h;rw[q1a h1] at hx;cases hx;by_cases hm:i∈jks
  ·refine .inl ⟨(a6 i).2 hm,by unfold J8;rw[if_pos hm],by omega,a7 i hm⟩
  ·have Z:i∈nds:=h2.resolve_right hm
   obtain⟨cs,e,f,hc,hv⟩:=hok i Z;refine .inr ⟨λk=>hm ((a6 i).1 k),.cells cs e f,by rw[hw i Z,hc],?_⟩;have:J8 Q W nds jks i=.cells cs e (0,max cs.size f.2):=by
    unfold J8;rw[if_neg hm,if_pos Z,hc];rfl
   rw[this];exact .cells e ⟨rfl,λk x y hx hy=>by rw[hx] at hy;cases hy;exact hv k x hx⟩ λo h1 h2=>by omega
 low:=λi hi=>by
  rw[q1a hi];unfold J8;split
  ·exact⟨_,_,_,rfl,λo ho=>by simp at ho⟩
  ·split
   ·split
    ·rename_i o ho
     cases o with
     | cells c e f=>exact⟨_,_,_,rfl,λo ho=>by simp;omega⟩
     | _=>exact⟨_,_,_,rfl,λo ho=>by simp at ho⟩
    ·exact⟨_,_,_,rfl,λo ho=>by simp at ho⟩
   ·exact⟨_,_,_,rfl,λo ho=>by simp at ho⟩
 env:=by show W.os.env=w.os.env;rw[ho]
 below:=λi hi=>hj i ((a6 i).1 hi)
 gar:=λi o hx=>by
  right;have hi:i<W.heap.size:=by
   have:=(q45.1 hx).1
   rwa [q67] at this
  rw[q1a hi] at hx;cases hx;unfold J8;split
  ·rfl
  ·split
   ·split
    ·rename_i o _;cases o<;>rfl
    ·rfl
   ·rfl
end
end Go.Co
namespace Go.Proofs.YtidgnkmjgioapaaGreat
open Go Go.Co Go.Sim
section
variable{Q:q8b}{W:q3g}{nds jks:List Nat}{lo hi:Nat}
theorem vX{b o:Nat}{cs:Array q58}{e:q8u}{f:Nat × Nat}{v:q58}(hb:b∈nds)(hj:b∉jks)(h:W.heap[b]?=some (.cells cs e f))(hv:cs[o]?=some v):(lw Q W nds jks).cell? ⟨b,o,none⟩=some v :=
 qa (q69 hb hj h) hv
theorem q6a{v:q58}{l:List Int}(h:qe lo hi W v l)(hd:∀b∈nds,b∉jks)(hb:∀B o n c,v=.slice (some ⟨B,o,none⟩) n c->l≠[]->B∈nds):qe lo hi (lw Q W nds jks) v l:=by
 obtain⟨base,cap,rfl,hl,hr⟩:=h;refine⟨base,cap,rfl,hl,λhne=>?_⟩;obtain⟨B,o,cs,fr,rfl,e2,e3,e4,e5⟩:=hr hne;have hB:=hb B o _ _ rfl hne;exact⟨B,o,cs,_,rfl,e2,e3,q69 hB (hd B hB) e4,e5⟩
theorem q68{v:q58}{ps:List Par}(h:qr lo hi W v ps)(hd:∀b∈nds,b∉jks)(hb:∀B o n c,v=.slice (some ⟨B,o,none⟩) n c->ps≠[]->B∈nds):qr lo hi (lw Q W nds jks) v ps:=by
 obtain⟨base,cap,rfl,hl,hr⟩:=h;refine⟨base,cap,rfl,hl,λhne=>?_⟩;obtain⟨B,o,cs,fr,rfl,e2,e3,e4,e5⟩:=hr hne;have hB:=hb B o _ _ rfl hne;exact⟨B,o,cs,_,rfl,e2,e3,q69 hB (hd B hB) e4,e5⟩
theorem q9z{v:q58}{n:Nat}{c:Nat->Nat->Int}(h:kT lo hi W v n c)(hd:∀b∈nds,b∉jks)(hb:∀B o n' c,v=.slice (some ⟨B,o,none⟩) n' c->0<n->B∈nds):kT lo hi (lw Q W nds jks) v n c:=by
 obtain⟨base,cap,rfl,hl,hr⟩:=h;refine⟨base,cap,rfl,hl,λhne=>?_⟩;obtain⟨B,o,cs,ty,fr,rfl,e2,e3,e4,e5⟩:=hr hne;have hB:=hb B o _ _ rfl hne;exact⟨B,o,cs,ty,_,rfl,e2,e3,q69 hB (hd B hB) e4,e5⟩
end
end Go.Proofs.YtidgnkmjgioapaaGreat
end
section
namespace Go.Proofs.YtidgnkmjgioapaaGreat
open Go Go.RowKit Go.Conc Go.ConcN Go.ConcN.Gen Go.Conc.Lib Go.ConcR.Gen Go.Co Go.Sim
inductive Lam | st | ld (i:Nat) | wk (i:Nat) | fn
structure Ph4 where
 W1:q3g
 clA:Nat->Cl
 lo:Nat
 Wg:Nat
 Nx:Nat
 A:Nat
 Fd:Nat
 Y:Nat
 V:Nat
 B:Nat
 ps:List Par
 lim:Int
 l:List Int
 wl:List Int
 N:Nat
 c:Nat->Nat->Int
 yb:Option qb9
 yc:Nat
 ab:Option qb9
 ac:Nat
 pv:q58
 vv:q58
 nds:List Nat
 Post:q58->q3g->Prop
 Fin:q5r->q3g->Prop
 AnchW:q5r->q3g->Prop
namespace Ph4
variable(x:Ph4)
def jks:List Nat:=[x.Wg,x.Nx,x.Fd]
def jk(b:Nat):Prop:=b∈x.jks
@[reducible] noncomputable def js:JunkSet:=JS Tryp.prog q8v ls x.jk
def Fz(b:Nat):Prop:=b<x.W1.heap.size/\x.clA b=.ro x.lo
def Sy(b:Nat):Prop:=b=x.Nx\/b=x.Fd
def DataAt(γ:Nat × Bool)(w:q3g):Prop:=w.heap[x.Nx]?=some (.cells #[.int .i64 γ.1] 158 (0,0))/\w.heap[x.Fd]?=some (.cells #[.int .u32 (if γ.2 then 1 else 0)] 161 (0,0))
def Liv(w:q3g):Prop:=qcF 166 x.Wg w/\∃γ,x.DataAt γ w
def K(w w₁:q3g):Prop:=(qcF 166 x.Wg w->qcF 166 x.Wg w₁)/\((∃γ,x.DataAt γ w)->∃γ,x.DataAt γ w₁)
def gn:Nat->Int:=pre Par.mn x.ps x.ps.length
def gx:Nat->Int:=pre Par.mx x.ps x.ps.length
def bad(i:Nat):Bool:=qw x.ps (ovr (x.c i) x.gn x.wl x.wl.length) x.l && !qw x.ps (ovr (x.c i) x.gx x.wl x.wl.length) x.l
noncomputable def w0:q3g:=lw Tryp.prog x.W1 x.nds x.jks
def r0:Ren:=Go.Co.lr x.W1.heap.size x.nds x.jks
def tmp0:Array q58:=tm0 x.Wg x.Nx x.A x.Fd x.Y x.V x.B
structure Ok:Prop where
 hlo:1<=x.lo
 hY:x.W1.heap[x.Y]?=some (.cells #[.slice x.yb x.ps.length x.yc,.int .i64 x.lim] 91 (0,0))
 hV:x.W1.heap[x.V]?=some (.cells #[x.vv] 29 (0,0))
 hB:x.W1.heap[x.B]?=some (.cells #[x.pv] 29 (0,0))
 hA:x.W1.heap[x.A]?=some (.cells #[.slice x.ab x.N x.ac] 152 (0,0))
 pars:qr 0 x.W1.heap.size x.W1 (.slice x.yb x.ps.length x.yc) x.ps
 ints:qe 0 x.W1.heap.size x.W1 x.vv x.wl
 intp:qe 0 x.W1.heap.size x.W1 x.pv x.l
 cas:kT 0 x.W1.heap.size x.W1 (.slice x.ab x.N x.ac) x.N x.c
 n5:x.ps.length<=5
 bmn:∀i,0<=x.gn i/\x.gn i<=1000
 bmx:∀i,0<=x.gx i/\x.gx i<=1000
 bc:∀i d,0<=x.c i d/\x.c i d<=1000
 hl:∀y∈x.l,0<=y/\y<x.ps.length
 ll:x.l.length<=1000
 hwl:∀y∈x.wl,0<=y/\y<5
 hN:x.N<=900000
 jlt:∀b∈x.jks,b<x.W1.heap.size
 ne1:x.Nx≠x.Fd
 ne2:x.Wg≠x.Nx
 ne3:x.Wg≠x.Fd
 sync:∀b∈x.jks,x.clA b=.sync
 nro:∀b∈x.nds,x.clA b=.ro x.lo
 nok:∀b∈x.nds,∃cs e f,x.W1.heap[b]?=some (.cells cs e f)/\∀(i:Nat) (v:q58),cs[i]?=some v->@VR x.js x.r0 v v
 n0:0∈x.nds
 nY:x.Y∈x.nds
 nV:x.V∈x.nds
 nB:x.B∈x.nds
 nA:x.A∈x.nds
 nyb:∀B o n c,qbp x.yb x.ps.length x.yc=.slice (some ⟨B,o,none⟩) n c->x.ps≠[]->B∈x.nds
 nvv:∀B o n c,x.vv=.slice (some ⟨B,o,none⟩) n c->x.wl≠[]->B∈x.nds
 npv:∀B o n c,x.pv=.slice (some ⟨B,o,none⟩) n c->x.l≠[]->B∈x.nds
 nab:∀B o n c,qbp x.ab x.N x.ac=.slice (some ⟨B,o,none⟩) n c->0<x.N->B∈x.nds
 cla0:∀b,x.W1.heap.size<=b->x.clA b=.mine 0
structure Cm(w:q3g):Prop where
 liv:x.Liv w
 fz:∀b,x.Fz b->w.heap[b]?=x.W1.heap[b]?
 size:x.W1.heap.size<=w.heap.size
 os:w.os=x.W1.os
structure Wk(S:Bs)(ρ:Ren)(a:Act)(tm:Array q58)(wq w:q3g):Prop where
 rel:@WRel x.js Tryp.prog q8v x.W1.heap.size x.Fz S x.jk (λb=>b<x.W1.heap.size) ρ a tm wq w
 le:Le x.r0 ρ
 gr:x.w0.grownBy (wq.tp x.w0.tape) none
 sz:a.tmps.size=60
 cap:∀k,k<7->a.tmps[k]?=x.tmp0[k]?
def WA(l:Lam)(S:Bs)(g:q5r)(w:q3g):Prop:=x.Cm w/\match l with
 | .st=>(g=born q8v (Kt x.Wg x.Nx x.A x.Fd x.Y x.V x.B)/\∀b,¬ S b) \/
   ∃ρ a tm wq,x.Wk S ρ a tm wq w/\g=G ((q9v 143).at ⟨#[pt x.Fd,.bool true,q5s,q5s,pt x.Fd,pt x.Fd,pt x.Fd,.bool true,.int .u32 1,.tuple #[]],[]⟩ [.inRegion Js []]) [f10 tm (dn x.Wg),bot]
 | .ld i=>i<x.N/\∃ρ a tm wq,x.Wk S ρ a tm wq w/\g=G ((q9v 141).at ⟨#[pt x.Nx,.int .i64 1,q5s,q5s,.int .i64 0,pt x.Nx,pt x.Nx,pt x.Nx,.int .i64 1,.int .i64 (i+1)],[]⟩ [.inRegion QP [5],.code .ret]) [f1 tm (dn x.Wg),bot]
 | .wk i=>i<x.N/\∃ρ a tm wq,x.Wk S ρ a tm wq w/\a.tmps[7]?=some (.int .i64 i)/\a.tmps[18]?=some (.bool false)/\g=G ((q9v 142).at ⟨#[pt x.Fd,q5s,.bool false,pt x.Fd,pt x.Fd,pt x.Fd,.int .u32 0,q5s],[]⟩ [.inRegion QO [4,5],.code .ret]) [f2 tm (dn x.Wg),bot]
 | .fn=>∃ρ a tm wq,x.Wk S ρ a tm wq w/\((∃i:Nat,x.N<=i/\i<=1000000/\g=G ((q9v 141).at ⟨#[pt x.Nx,.int .i64 1,q5s,q5s,.int .i64 0,pt x.Nx,pt x.Nx,pt x.Nx,.int .i64 1,.int .i64 (i+1)],[]⟩ [.inRegion QP [5],.code .ret]) [f1 tm (dn x.Wg),bot]) \/
   (a.tmps[18]?=some (.bool false)/\g=G ((q9v 142).at ⟨#[pt x.Fd,q5s,.bool false,pt x.Fd,pt x.Fd,pt x.Fd,.int .u32 1,q5s],[]⟩ [.inRegion QO [4,5],.code .ret]) [f2 tm (dn x.Wg),bot]))
def fin:Lam->Prop | .fn=>True | _=>False
def Tr(γ:Nat × Bool)(l:Lam)(γ':Nat × Bool)(l':Lam):Prop :=
 ((l=.st\/∃i,l=.wk i/\x.bad i=false)/\γ'=(γ.1+1,γ.2)/\l'=(if γ.1<x.N then .ld γ.1 else .fn)) \/
 (∃i,l=.ld i/\γ'=γ/\l'=(if γ.2 then .fn else .wk i)) \/
 (∃i,l=.wk i/\x.bad i=true/\i<x.N/\γ'=(γ.1,true)/\l'=.st)
def Jt:Lam->Bool | .fn=>true | _=>false
def xh:Nat->(Nat->Lam)->Nat
 | 0,_=>0
 | j+1,ls=>xh j ls+(if Jt (ls j) then 1 else 0)
def J(γ:Nat × Bool)(j:Nat)(ls:Nat->Lam):Prop :=
 γ.1<=x.N+xh j ls/\(γ.2=true->∃i,i<x.N/\x.bad i=true)/\(γ.2=false->∀i,i<x.N->i<γ.1->x.bad i=false\/∃k,k<j/\(ls k=.ld i\/ls k=.wk i))/\(∀k,k<j->ls k=.fn->γ.2=true\/x.N<=γ.1)
def m(γ:Nat × Bool):Nat:=3*(x.N - γ.1)
def nu:Lam->Nat | .fn=>0 | .st=>1 | .wk _=>2 | .ld _=>3
noncomputable def cfg:Cfg (Nat × Bool) Lam where
 P:=q8v
 ty:=166
 Wg:=x.Wg
 lo:=x.lo
 n:=min 4 x.N
 Fz:=x.Fz
 Sy:=x.Sy
 clA:=x.clA
 DataAt:=x.DataAt
 WA:=x.WA
 Tr:=x.Tr
 J:=x.J
 m:=x.m
 nu:=nu
 l0:=.st
 fin:=fin
 W1:=x.W1
 Fin:=x.Fin
 AnchW:=x.AnchW
 Post:=x.Post
end Ph4
end Go.Proofs.YtidgnkmjgioapaaGreat
end
section
namespace Go.Proofs.YtidgnkmjgioapaaGreat
open Go Go.RowKit Go.Conc Go.ConcN Go.ConcN.Gen Go.Conc.Lib Go.ConcR.Gen Go.Co Go.Sim
namespace Ph4
section
variable{x:Ph4}{S:Bs}{w w₁:q3g}{ρ:Ren}{a:Act}{tm:Array q58}{wq:q3g}
theorem kt:∀a b c,x.cfg.K a b->x.cfg.K b c->x.cfg.K a c:=Cfg.K.trans
theorem Cm.rely(h:x.Cm w)(r:RC x.Fz x.cfg.K S w w₁):x.Cm w₁ :=
 ⟨⟨r.k.1 h.liv.1,r.k.2 h.liv.2⟩,λb hb=>(r.fz b hb).trans (h.fz b hb),q87 h.size r.size,r.os.trans h.os⟩
theorem Liv.cells(h:x.Liv w){b:Nat}(hb:b∈x.jks):∃c e f,w.heap[b]?=some (.cells c e f):=by
 obtain⟨⟨st,sm,hw⟩,γ,h1,h2⟩:=h;unfold jks at hb;simp only[qbx,qc2,or_false] at hb;rcases hb with rfl | rfl | rfl
 ·exact⟨_,_,_,hw⟩
 ·exact⟨_,_,_,h1⟩
 ·exact⟨_,_,_,h2⟩
theorem Wk.to(h:x.Wk S ρ a tm wq w)(hk:∀b,x.Fz b\/S b->w₁.heap[b]?=w.heap[b]?)(hs:w.heap.size<=w₁.heap.size)(ho:w₁.os=w.os)(hl:x.Liv w₁):x.Wk S ρ a tm wq w₁:=by
 letI:JunkSet:=x.js
 exact{ h with rel:=⟨h.rel.len,h.rel.wr.rely hs (by rw[ho]) (λi j hij Z=>by
    rcases qbF i x.W1.heap.size with hlt | hge
    ·exact hk j (.inl (h.rel.own.low i j hij hlt Z))
    ·exact hk j (.inr (h.rel.own.own i j hij hge))) (λi j hij Z=>hl.cells (h.rel.jb i j hij Z)),h.rel.gl,h.rel.tm,h.rel.df,h.rel.own,h.rel.jb,h.rel.js⟩ }
theorem Wk.rely(h:x.Wk S ρ a tm wq w)(hc:x.Cm w)(r:RC x.Fz x.cfg.K S w w₁):x.Wk S ρ a tm wq w₁ :=
 h.to (λb hb=>hb.elim (r.fz b) (r.own b)) r.size r.os (hc.rely r).liv
theorem Wk.set(h:x.Wk S ρ a tm wq w)(i:Nat)(hi:7<=i){u v:q58}(hv:@VR x.js ρ u v):x.Wk S ρ ⟨a.tmps.setIfInBounds i u,a.defers⟩ (tm.setIfInBounds i v) wq w:=by
 letI:JunkSet:=x.js
 exact{ h with
  rel:=⟨h.rel.len,h.rel.wr,h.rel.gl,@AsR.set x.js _ _ _ h.rel.tm i _ _ hv,h.rel.df,h.rel.own,h.rel.jb,h.rel.js⟩
  sz:=by simp[h.sz]
  cap:=λk hk=>by
   show(a.tmps.setIfInBounds i u)[k]?=_;rw[qbj (by omega)];exact h.cap k hk }
theorem br0{b:Nat}(hb:b∈x.nds\/b∈x.jks)(hlt:b<x.W1.heap.size):BR x.r0 b b:=Jl.2 ⟨hlt,rfl,hb⟩
theorem Wk.ptr(h:x.Wk S ρ a tm wq w){k b:Nat}(hk:a.tmps[k]?=some (pt b))(hb:BR x.r0 b b):tm[k]?.getD q5s=pt b:=by
 letI:JunkSet:=x.js
 obtain⟨y,hy,hv⟩:=@AsR.get x.js _ _ _ h.rel.tm k _ hk;rw[hy];unfold pt at hv ⊢;cases hv with
 | ptr off spot hij=>rw[BR.fn hij (hb.mono h.le)];rfl
theorem Wk.bool(h:x.Wk S ρ a tm wq w){k:Nat}{t:Bool}(hk:a.tmps[k]?=some (.bool t)):tm[k]?.getD q5s=.bool t:=by
 letI:JunkSet:=x.js
 obtain⟨y,hy,hv⟩:=@AsR.get x.js _ _ _ h.rel.tm k _ hk;rw[hy];cases hv;rfl
theorem Wk.tsz(h:x.Wk S ρ a tm wq w):tm.size=60:=by
 letI:JunkSet:=x.js
 have h1:=h.rel.tm.1;rw[<- h1];exact h.sz
theorem Ok.fz(o:x.Ok){b:Nat}(hb:b∈x.nds):x.Fz b:=by
 obtain⟨cs,e,f,h,_⟩:=o.nok b hb;exact⟨(q45.1 h).1,o.nro b hb⟩
theorem Ok.dj(o:x.Ok):∀b∈x.nds,b∉x.jks:=λb hb hj=>by
 have h1:=o.nro b hb;rw[o.sync b hj] at h1;cases h1
theorem Ok.ndlt(o:x.Ok){b:Nat}(hb:b∈x.nds):b<x.W1.heap.size:=(o.fz hb).1
theorem Ok.t1(o:x.Ok)(h:x.Wk S ρ a tm wq w):tm[1]?.getD q5s=pt x.Nx:=h.ptr ((h.cap 1 (by omega)).trans (by simp[tmp0,tm0,qdk])) (br0 (.inr (by simp[jks])) (o.jlt _ (by simp[jks])))
theorem Ok.t2(o:x.Ok)(h:x.Wk S ρ a tm wq w):tm[2]?.getD q5s=pt x.A:=h.ptr ((h.cap 2 (by omega)).trans (by simp[tmp0,tm0,qdk])) (br0 (.inl o.nA) (o.ndlt o.nA))
theorem Ok.t3(o:x.Ok)(h:x.Wk S ρ a tm wq w):tm[3]?.getD q5s=pt x.Fd:=h.ptr ((h.cap 3 (by omega)).trans (by simp[tmp0,tm0,qdk])) (br0 (.inr (by simp[jks])) (o.jlt _ (by simp[jks])))
theorem Ok.cellA(o:x.Ok)(h:x.Cm w):w.cell? ⟨x.A,0,none⟩=some (.slice x.ab x.N x.ac):=qa ((h.fz _ (o.fz o.nA)).trans o.hA) rfl
theorem Ok.vrA(o:x.Ok):@VR x.js x.r0 (.slice x.ab x.N x.ac) (.slice x.ab x.N x.ac):=by
 obtain⟨cs,e,f,h,hv⟩:=o.nok _ o.nA;rw[o.hA] at h;cases h;exact hv 0 _ rfl
end
end Ph4
end Go.Proofs.YtidgnkmjgioapaaGreat
end
section
namespace Go.Proofs.YtidgnkmjgioapaaGreat
open Go Go.RowKit Go.Conc Go.ConcN Go.ConcN.Gen Go.Conc.Lib Go.ConcR.Gen Go.Co Go.Sim
theorem xX{w:q3g}{b o:Nat}{cs:Array q58}{e:q8u}(h:w.heap[b]?=some (.cells cs e (0,0))):w.frozen? ⟨b,o,none⟩=false:=by
 simp[World.frozen?,h]
theorem i64_nat{n:Nat}(h:n<=1000001):IntKind.i64.wrap (n:Int)=n:=qa7 _ (by omega)
namespace Ph4
theorem cntF_le(j:Nat)(ls:Nat->Lam):xh j ls<=j:=by
 induction j with
 | zero=>exact q5m _
 | succ j ih=>unfold xh;split<;>omega
section
variable{x:Ph4}(o:x.Ok){S:Bs}{w:q3g}{ρ:Ren}{a:Act}{tm:Array q58}{wq:q3g}
include o
theorem Ok.fzne{b:Nat}(hb:x.Fz b){j:Nat}(hj:j∈x.jks):b≠j:=by
 rintro rfl;have h:=hb.2;rw[o.sync _ hj] at h;cases h
theorem Ok.after(hc:x.Cm w){b:Nat}(hb:b=x.Nx\/b=x.Fd)(v:q58){γ':Nat × Bool}(hd:x.DataAt γ' (w.setCell ⟨b,0,none⟩ v)):x.Cm (w.setCell ⟨b,0,none⟩ v) where
 liv:=by
  obtain⟨st,sm,hw⟩:=hc.liv.1;refine⟨⟨st,sm,?_⟩,γ',hd⟩;show(w.setCell ⟨b,0,none⟩ v).heap[x.Wg]?=_;rw[qdp _ _ _ _ (by rcases hb with rfl | rfl;exact o.ne2;exact o.ne3)];exact hw
 fz:=λc Z=>by
  rw[qdp _ _ _ _ (o.fzne Z (by rcases hb with rfl | rfl<;>simp[jks]))];exact hc.fz c Z
 size:=by simpa using hc.size
 os:=hc.os
theorem Ok.wkafter(hc:x.Cm w)(h:x.Wk S ρ a tm wq w){b:Nat}(hb:b=x.Nx\/b=x.Fd)(v:q58)(hl:x.Liv (w.setCell ⟨b,0,none⟩ v)):x.Wk S ρ a tm wq (w.setCell ⟨b,0,none⟩ v):=by
 letI:JunkSet:=x.js
 have a6:b∈x.jks:=by rcases hb with rfl | rfl<;>simp[jks]
 refine h.to (λc Z=>?_) (by simp) rfl hl;refine qdp _ _ _ _ ?_;rcases Z with Z | Z
 ·exact o.fzne Z a6
 ·rintro rfl
  exact h.rel.js _ (o.jlt _ a6) Z
theorem Ok.sync1{l:Lam}(hl:l=.st\/∃i,l=.wk i/\x.bad i=false)(hc:x.Cm w)(h:x.Wk S ρ a tm wq w) :
  x.cfg.Stop l S (G ((q9v 141).at ⟨#[pt x.Nx,.int .i64 1,q5s,q5s,.int .i64 0,pt x.Nx,pt x.Nx,pt x.Nx,.int .i64 1,q5s],[]⟩ [.inRegion QP [4,5],.code .ret]) (f1 tm (dn x.Wg)::[bot])) w:=by
 refine⟨rfl,.inr ⟨by rcases hl with rfl | ⟨i,rfl,_⟩<;>exact id,?_⟩⟩;rintro⟨c,b⟩ hd ⟨j,ls,hj,hJ⟩;have hγ:c<=x.N+4:=by
  have h1:c<=x.N+xh j ls:=hJ.1;have h3:=cntF_le j ls;have h2:j<=min 4 x.N:=hj;omega
 have hN:=o.hN;obtain⟨d1,d2⟩:=hd;have hcell:w.cell? ⟨x.Nx,0,none⟩=some (.int .i64 c):=qa d1 rfl;have hz:=xX (o:=0) d1;have a7:IntKind.i64.wrap ((c:Int)+1)=c+1:=by have:=i64_nat (n:=c+1) (by omega);simpa using this
 have a6:x.DataAt (c+1,b) (w.setCell ⟨x.Nx,0,none⟩ (.int .i64 (c+1))):=by
  refine⟨?_,?_⟩
  ·rw[heap_setCell_same _ _ _ _ _ _ d1]
   simp
  ·rw[qdp _ _ _ _ (Ne.symm o.ne1)]
   exact d2
 have Z:=o.after hc (.inl rfl) (.int .i64 (c+1)) a6;have hk':=o.wkafter hc h (.inl rfl) (.int .i64 (c+1)) Z.liv;refine⟨G ((q9v 141).at ⟨#[pt x.Nx,.int .i64 1,q5s,q5s,.int .i64 0,pt x.Nx,pt x.Nx,pt x.Nx,.int .i64 1,.int .i64 (c+1)],[]⟩ [.inRegion QP [5],.code .ret]) (f1 tm (dn x.Wg)::[bot]),w.setCell ⟨x.Nx,0,none⟩ (.int .i64 (c+1)),#[⟨.cell ⟨x.Nx,0,none⟩,false,true⟩,⟨.cell ⟨x.Nx,0,none⟩,true,true⟩],(c+1,b),if c<x.N then .ld c else .fn,?_,λc hcs=>qdp _ _ _ _ λe=>hcs (.inl e),by simp,rfl,rfl,?_,a6,.inl ⟨hl,rfl,rfl⟩,?_⟩
 ·refine(stepG_add_atomic (o:=QP[4]'(by simp only[QP,Tryz.f141,q88,sqA,sqB,qJ];decide)) (by simp) (by simp only[QP,Tryz.f141,q88,sqA,sqB,qJ];rfl) (by k_ne) (by simp only[QP,Tryz.f141,q88,sqA,sqB,qJ];rfl) Tryz.func179 (by kernel_rfl) (by kernel_rfl) (by kernel_rfl) .i64 (by kernel_rfl) rfl rfl hcell hz).trans ?_
  rw[a7];simp only[QP,Tryz.f141,q88,sqA,sqB,qJ];rfl
 ·intro e he
  simp at he;rcases he with rfl | rfl
  ·exact⟨_,_,rfl,.inl rfl⟩
  ·exact⟨_,_,rfl,.inl rfl⟩
 ·show x.WA _ _ _ _
  split
  ·rename_i hlt
   exact⟨Z,hlt,ρ,a,tm,wq,hk',rfl⟩
  ·rename_i hge
   exact⟨Z,ρ,a,tm,wq,hk',.inl ⟨c,by omega,by omega,rfl⟩⟩
theorem Ok.sync2{i:Nat}(hi:i<x.N)(hc:x.Cm w)(h:x.Wk S ρ a tm wq w)(h7:a.tmps[7]?=some (.int .i64 i))(Z:a.tmps[18]?=some (.bool false)) :
  x.cfg.Stop (.ld i) S (G ((q9v 142).at ⟨#[pt x.Fd,q5s,.bool false,pt x.Fd,pt x.Fd,pt x.Fd,q5s,q5s],[]⟩ [.inRegion QO [3,4,5],.code .ret]) (f2 tm (dn x.Wg)::[bot])) w:=by
 refine⟨rfl,.inr ⟨id,?_⟩⟩;rintro⟨c,b⟩ hd ⟨j,ls,hj,hJ⟩;have a6:=hd;obtain⟨d1,d2⟩:=hd;have hcell:w.cell? ⟨x.Fd,0,none⟩=some (.int .u32 (if b then 1 else 0)):=qa d2 rfl;refine⟨G ((q9v 142).at ⟨#[pt x.Fd,q5s,.bool false,pt x.Fd,pt x.Fd,pt x.Fd,.int .u32 (if b then 1 else 0),q5s],[]⟩ [.inRegion QO [4,5],.code .ret]) (f2 tm (dn x.Wg)::[bot]),w,#[⟨.cell ⟨x.Fd,0,none⟩,false,true⟩],(c,b),if b then .fn else .wk i,?_,λc hcs=>rfl,rfl,rfl,rfl,?_,a6,.inr (.inl ⟨i,rfl,rfl,rfl⟩),?_⟩
 ·refine(stepG_load_atomic (o:=QO[3]'(by simp only[QO,Tryz.f142,q88,sqA,sqB,qJ];decide)) (by simp) (by simp only[QO,Tryz.f142,q88,sqA,sqB,qJ];rfl) (by k_ne) (by simp only[QO,Tryz.f142,q88,sqA,sqB,qJ];rfl) Tryz.func180 (by kernel_rfl) (by kernel_rfl) (by kernel_rfl) .u32 (by kernel_rfl) rfl hcell).trans ?_
  simp only[QO,Tryz.f142,q88,sqA,sqB,qJ];rfl
 ·intro e he
  simp at he;subst he;exact⟨_,_,rfl,.inr rfl⟩
 ·show x.WA _ _ _ _
  cases b with
  | true=>exact⟨hc,ρ,a,tm,wq,h,.inr ⟨Z,rfl⟩⟩
  | false=>exact⟨hc,hi,ρ,a,tm,wq,h,h7,Z,rfl⟩
theorem Ok.sync3{i:Nat}(hi:i<x.N)(hb:x.bad i=true)(hc:x.Cm w)(h:x.Wk S ρ a tm wq w) :
  x.cfg.Stop (.wk i) S (G ((q9v 143).at ⟨#[pt x.Fd,.bool true,q5s,q5s,pt x.Fd,pt x.Fd,pt x.Fd,.bool true,.int .u32 1,q5s],[]⟩ [.inRegion Js [5]]) (f10 tm (dn x.Wg)::[bot])) w:=by
 refine⟨rfl,.inr ⟨id,?_⟩⟩;rintro⟨c,b⟩ hd ⟨j,ls,hj,hJ⟩;obtain⟨d1,d2⟩:=hd;have hcell:w.cell? ⟨x.Fd,0,none⟩=some (.int .u32 (if b then 1 else 0)):=qa d2 rfl;have hz:=xX (o:=0) d2;have Z:x.DataAt (c,true) (w.setCell ⟨x.Fd,0,none⟩ (.int .u32 1)):=by
  refine⟨?_,?_⟩
  ·rw[qdp _ _ _ _ o.ne1]
   exact d1
  ·rw[heap_setCell_same _ _ _ _ _ _ d2]
   simp
 have a6:=o.after hc (.inr rfl) (.int .u32 1) Z;have hk':=o.wkafter hc h (.inr rfl) (.int .u32 1) a6.liv;refine⟨G ((q9v 143).at ⟨#[pt x.Fd,.bool true,q5s,q5s,pt x.Fd,pt x.Fd,pt x.Fd,.bool true,.int .u32 1,.tuple #[]],[]⟩ [.inRegion Js []]) (f10 tm (dn x.Wg)::[bot]),w.setCell ⟨x.Fd,0,none⟩ (.int .u32 1),#[⟨.cell ⟨x.Fd,0,none⟩,true,true⟩],(c,true),.st,?_,λc hcs=>qdp _ _ _ _ λe=>hcs (.inr e),by simp,rfl,rfl,?_,Z,.inr (.inr ⟨i,rfl,hb,hi,rfl,rfl⟩),?_⟩
 ·refine(stepG_store_atomic (o:=Js[5]'(by simp only[Js,Tryz.f143,q88,sqA,sqB,qJ];decide)) (by simp) (by simp only[Js,Tryz.f143,q88,sqA,sqB,qJ];rfl) (by k_ne) (by simp only[Js,Tryz.f143,q88,sqA,sqB,qJ];rfl) Tryz.func181 (by kernel_rfl) (by kernel_rfl) (by kernel_rfl) (by kernel_rfl) rfl rfl hcell hz).trans ?_
  simp only[Js,Tryz.f143,q88,sqA,sqB,qJ];rfl
 ·intro e he
  simp at he;subst he;exact⟨_,_,rfl,.inr rfl⟩
 ·exact(⟨a6,.inr ⟨ρ,a,tm,wq,hk',rfl⟩⟩:x.WA .st S _ _)
end
end Ph4
end Go.Proofs.YtidgnkmjgioapaaGreat
end
section
namespace Go.Proofs.YtidgnkmjgioapaaGreat
open Go Go.RowKit Go.Conc Go.ConcN Go.ConcN.Gen Go.Conc.Lib Go.ConcR.Gen Go.Co Go.Sim
theorem qaC[JunkSet]{ρ:Ren}{t:Array q58}(h:∀v∈t,VR ρ v v):AsR ρ t t:=⟨rfl,λi u v hu hv=>by
 rw[hu] at hv;cases hv;exact h u (qby hu)⟩
theorem wX_eq:wX=.seq wR3 (.seq wR4 (.seq wR9 wC10)):=by kernel_rfl
theorem ck3:yV Tryp.prog ls wR3=true:=by kernel_rfl
theorem ck4:yV Tryp.prog ls wR4=true:=by kernel_rfl
theorem ck9:yV Tryp.prog ls wR9=true:=by kernel_rfl
theorem hrr(fr:q8c):q9A fr [bot]=none:=by
 unfold q9A;split
 ·rename_i h
  cases h;simp[bot,goexitEntry]
 ·rename_i h
  cases h;have:q9A bot []=none:=by
   unfold q9A;rfl
  rw[this];rfl
 ·rfl
namespace Ph4
section
variable{x:Ph4}(o:x.Ok){S:Bs}{w:q3g}{ρ:Ren}{a:Act}{tm:Array q58}{wq:q3g}
include o
theorem Ok.born(hc:x.Cm w)(hS:∀b,¬ S b):x.Wk S x.r0 ⟨x.tmp0,[]⟩ x.tmp0 x.w0 w:=by
 letI:JunkSet:=x.js
 refine⟨⟨by simp[r0,Go.Co.lr],?_,λi hi=>?_,?_,rfl,⟨λi j h _ hj=>?_,λi j h hb=>?_⟩,λi j h hj=>?_,λj _=>hS j⟩,Le.refl _,q8j _ _,by simp[tmp0,tm0],λ_ _=>rfl⟩
 ·exact lw_wr (λi=>Iff.rfl) (by kernel_rfl) o.dj (λb hb=>o.ndlt hb) o.jlt o.nok (λb hb=>hc.fz b (o.fz hb)) hc.size hc.os λb hb=>hc.liv.cells hb
 ·have h0:Tryz.prog.globals.size=0:=by kernel_rfl
  have:i=0:=by omega
  subst this;exact br0 (.inl o.n0) (o.ndlt o.n0)
 ·refine qaC λv hv=>?_
  have hp:∀b,b∈x.nds\/b∈x.jks->VR x.r0 (pt b) (pt b):=λb hb=>.ptr 0 none (br0 hb (hb.elim (λh=>o.ndlt h) λh=>o.jlt _ h));simp only[tmp0,tm0,qdc,Array.mem_replicate,qde,qbx,qc2,or_false] at hv;rcases hv with(rfl | rfl | rfl | rfl | rfl | rfl | rfl) | ⟨_,rfl⟩
  ·exact hp _ (.inr (by simp[jks]))
  ·exact hp _ (.inr (by simp[jks]))
  ·exact hp _ (.inl o.nA)
  ·exact hp _ (.inr (by simp[jks]))
  ·exact hp _ (.inl o.nY)
  ·exact hp _ (.inl o.nV)
  ·exact hp _ (.inl o.nB)
  ·exact kh _
 ·obtain⟨h1,rfl,h2⟩:=Jl.1 h
  rcases h2 with h2 | h2
  ·exact o.fz h2
  ·exact absurd h2 hj
 ·obtain⟨h1,rfl,h2⟩:=Jl.1 h
  omega
 ·obtain⟨h1,rfl,h2⟩:=Jl.1 h
  exact hj
theorem Ok.piece{Stop:Bs->q5r->q3g->Prop}(hSo:∀S g w off,Stop S g w->Stop S { g with offers:=off } w){c:qcm}(hco:yV Tryp.prog ls c=true){k:List qdy}(hc:x.Cm w)(h:x.Wk S ρ a tm wq w){R:Act->q3g->Prop}
  (hwp:∀T,c.wp Tryp.prog (yg R) a (wq.tp T)) (hR:∀a' u,R a' u->a'.defers=[]/\a'.tmps.size=60/\(∀k,k<7->a'.tmps[k]?=x.tmp0[k]?)/\x.w0.grownBy (u.tp x.w0.tape) none)
  (hend:∀S' ρ' a' tm' wq' w',R a' wq'->x.Cm w'->x.Wk S' ρ' a' tm' wq' w'->qk q8v x.Fz x.cfg.K Stop S' (G ((qbs 139).at ⟨tm',dn x.Wg⟩ k) [bot]) w') :
  qk q8v x.Fz x.cfg.K Stop S (G ((qbs 139).at ⟨tm,dn x.Wg⟩ (.code c::k)) [bot]) w:=by
 letI:JunkSet:=x.js
 refine qk.piece (J:=x.js) (duoQP x.jk) (X:=⟨JS Tryp.prog Tryp.prog ls x.jk⟩) (up x.jk) (duoQQ x.jk) hrf hrr stub85 x.jk (λb=>b<x.W1.heap.size) x.Cm (λS w w₁ r hw=>hw.rely r) (λS w w' es hd hk hw=>?_) (λw b hw hb=>hw.liv.cells hb) (λw b hw hb=>q8m hb hw.size) hSo (b:=qbs 139) ?_ (by kernel_rfl) rfl (q3D (λ_ h=>h) (λ_ h=>h) (λ_ _ h=>h) hco) h.rel hc hwp (λa' u hr=>(hR a' u hr).1) ?_
 ·refine⟨⟨?_,?_⟩,λb hb=>(hk b hb.1).trans (hw.fz b hb),q87 hw.size hd.size,hd.os.trans hw.os⟩
  ·obtain⟨st,sm,hg⟩:=hw.liv.1
   exact⟨st,sm,(hk _ (o.jlt _ (by simp[jks]))).trans hg⟩
  ·obtain⟨γ,h1,h2⟩:=hw.liv.2
   exact⟨γ,(hk _ (o.jlt _ (by simp[jks]))).trans h1,(hk _ (o.jlt _ (by simp[jks]))).trans h2⟩
 ·refine⟨_,(zd 139 (by decide)).trans Tryz.func139,Tryz.func139⟩
 ·intro ρ' a' tm' wq' w' S' hr hle hrel hcm
  obtain⟨h1,h2,h3,h4⟩:=hR _ _ hr;exact hend S' ρ' a' tm' wq' w' hr hcm ⟨hrel,h.le.trans hle,h4,h2,h3⟩
end
end Ph4
end Go.Proofs.YtidgnkmjgioapaaGreat
end
section
namespace Go.Proofs.YtidgnkmjgioapaaGreat
open Go Go.RowKit Go.Conc Go.ConcN Go.ConcN.Gen Go.Conc.Lib Go.ConcR.Gen Go.Co Go.Sim
theorem arr60(z:Array q58)(h:z.size=60):z=#[z[0]?.getD q5s,z[1]?.getD q5s,z[2]?.getD q5s,z[3]?.getD q5s,z[4]?.getD q5s,z[5]?.getD q5s,z[6]?.getD q5s,z[7]?.getD q5s,z[8]?.getD q5s,z[9]?.getD q5s,z[10]?.getD q5s,z[11]?.getD q5s,z[12]?.getD q5s,z[13]?.getD q5s,z[14]?.getD q5s,z[15]?.getD q5s,z[16]?.getD q5s,z[17]?.getD q5s,z[18]?.getD q5s,z[19]?.getD q5s,z[20]?.getD q5s,z[21]?.getD q5s,z[22]?.getD q5s,z[23]?.getD q5s,z[24]?.getD q5s,z[25]?.getD q5s,z[26]?.getD q5s,z[27]?.getD q5s,z[28]?.getD q5s,z[29]?.getD q5s,z[30]?.getD q5s,z[31]?.getD q5s,z[32]?.getD q5s,z[33]?.getD q5s,z[34]?.getD q5s,z[35]?.getD q5s,z[36]?.getD q5s,z[37]?.getD q5s,z[38]?.getD q5s,z[39]?.getD q5s,z[40]?.getD q5s,z[41]?.getD q5s,z[42]?.getD q5s,z[43]?.getD q5s,z[44]?.getD q5s,z[45]?.getD q5s,z[46]?.getD q5s,z[47]?.getD q5s,z[48]?.getD q5s,z[49]?.getD q5s,z[50]?.getD q5s,z[51]?.getD q5s,z[52]?.getD q5s,z[53]?.getD q5s,z[54]?.getD q5s,z[55]?.getD q5s,z[56]?.getD q5s,z[57]?.getD q5s,z[58]?.getD q5s,z[59]?.getD q5s]:=by
 obtain⟨y0,y1,y2,y3,y4,y5,y6,y7,y8,y9,y10,y11,y12,y13,y14,y15,y16,y17,y18,y19,y20,y21,y22,y23,y24,y25,y26,y27,y28,y29,y30,y31,y32,y33,y34,y35,y36,y37,y38,y39,y40,y41,y42,y43,y44,y45,y46,y47,y48,y49,y50,y51,y52,y53,y54,y55,y56,y57,y58,y59,rfl⟩:=Ys z h;rfl
theorem q3k{w0 wq w':q3g}{T:Nat->qc7->Nat}(h:w0.grownBy (wq.tp w0.tape) none)(hg:(wq.tp T).grownBy w' none):w0.grownBy (w'.tp w0.tape) none :=
 ⟨hg.os.trans h.os,rfl,hg.output.trans h.output,q87 h.size hg.size,λk hk hn=>(hg.block k (q8m hk h.size) hn).trans (h.block k hk hn)⟩
theorem gr_tp{w0 wq:q3g}(T:Nat->qc7->Nat)(h:w0.grownBy (wq.tp w0.tape) none):(w0.tp T).grownBy (wq.tp T) none:=⟨h.os,rfl,h.output,h.size,h.block⟩
theorem gr_pt{w0 w':q3g}{T:Nat->qc7->Nat}(h:(w0.tp T).grownBy w' none):w0.grownBy (w'.tp w0.tape) none:=⟨h.os,rfl,h.output,h.size,h.block⟩
theorem cap_k{z z0:Array q58}(hz:z.size=60)(hc:∀k,k<7->z[k]?=z0[k]?)(k:Nat)(hk:k<7):z0[k]?=some (z[k]?.getD q5s):=by
 rw[<- hc k hk,q9w (by omega)];rfl
namespace Ph4
section
variable{x:Ph4}(o:x.Ok){S:Bs}{w:q3g}{ρ:Ren}{a:Act}{tm:Array q58}{wq:q3g}
structure Base(x:Ph4)(i:Nat)(a:Act)(u:q3g):Prop where
 df:a.defers=[]
 sz:a.tmps.size=60
 cap:∀k,k<7->a.tmps[k]?=x.tmp0[k]?
 gr:x.w0.grownBy (u.tp x.w0.tape) none
 i7:a.tmps[7]?=some (.int .i64 i)
def Rows(x:Ph4)(g h:Nat->Int)(a:Act)(u:q3g):Prop:=∃B1 B2,a.tmps[8]?=some (.pointer (some ⟨B1,0,none⟩))/\a.tmps[9]?=some (.pointer (some ⟨B2,0,none⟩))/\u.heap[B1]?=some (qE g)/\u.heap[B2]?=some (qE h)/\B1≠B2/\x.w0.heap.size<=B1/\x.w0.heap.size<=B2
theorem Wk.df(h:x.Wk S ρ a tm wq w):a.defers=[]:=by
 letI:JunkSet:=x.js
 exact h.rel.df
include o
theorem Ok.capv(h:x.Wk S ρ a tm wq w)(k b:Nat)(hk:k<7)(e:x.tmp0[k]?=some (pt b)):a.tmps[k]?.getD q5s=.pointer (some ⟨b,0,none⟩):=by
 rw[h.cap k hk,e];rfl
theorem Ok.w0s:x.w0.heap.size=x.W1.heap.size:=q67
theorem Ok.wp3(h:x.Wk S ρ a tm wq w){i:Nat}(h7:a.tmps[7]?=some (.int .i64 i))(T:Nat->qc7->Nat) :
  wR3.wp Tryp.prog (yg λa u=>x.Base i a u/\x.Rows x.gn x.gx a u) a (wq.tp T):=by
 have Z:=h.df;obtain⟨z,d⟩:=a;have Z:d=[]:=Z;subst Z;have h4:z[4]?.getD q5s=.pointer (some ⟨x.Y,0,none⟩):=o.capv h 4 x.Y (by omega) (by simp[tmp0,tm0]);have hc:=cap_k h.sz h.cap;have hsz:z.size=60:=h.sz;have a6:z[7]?=some (.int .i64 i):=h7;have hg:=gr_tp T h.gr;have hP:qr 0 x.W1.heap.size (wq.tp T) (.slice x.yb x.ps.length x.yc) x.ps:=(show qr 0 x.W1.heap.size (x.w0.tp T) (.slice x.yb x.ps.length x.yc) x.ps from q68 (Q:=Tryp.prog) (jks:=x.jks) o.pars o.dj o.nyb).kept hg (by simp);have hlt:=o.ndlt o.nY;have a9:(wq.tp T).cell? ⟨x.Y,0,none⟩=some (.slice x.yb x.ps.length x.yc):=hg.cell (vX o.nY (o.dj _ o.nY) o.hY rfl) (by simp);have a8:(wq.tp T).cell? ⟨x.Y,1,none⟩=some (.int .i64 x.lim):=hg.cell (vX o.nY (o.dj _ o.nY) o.hY rfl) (by simp);have hs:x.W1.heap.size<=(wq.tp T).heap.size:=by rw[<- o.w0s];exact hg.size
 generalize ht:(λk:Nat=>z[k]?.getD q5s)=t;have hz:z=#[t 0,t 1,t 2,t 3,t 4,t 5,t 6,t 7,t 8,t 9,t 10,t 11,t 12,t 13,t 14,t 15,t 16,t 17,t 18,t 19,t 20,t 21,t 22,t 23,t 24,t 25,t 26,t 27,t 28,t 29,t 30,t 31,t 32,t 33,t 34,t 35,t 36,t 37,t 38,t 39,t 40,t 41,t 42,t 43,t 44,t 45,t 46,t 47,t 48,t 49,t 50,t 51,t 52,t 53,t 54,t 55,t 56,t 57,t 58,t 59]:=by subst ht;exact arr60 z hsz
 have h4:t 4=.pointer (some ⟨x.Y,0,none⟩):=by subst ht;exact h4
 have hc:∀k,k<7->x.tmp0[k]?=some (t k):=by subst ht;exact hc
 have a6:t 7=.int .i64 i:=by subst ht;show z[7]?.getD q5s=_;rw[a6];rfl
 rw[hz];refine piece3 0 x.W1.heap.size t (wq.tp T) _ x.ps x.lim x.Y x.yb x.yc h4 hP hs o.n5 a9 a8 (by omega) λB1 B2 w' _ _ _ _ a7 b6 b0 hne hb1 b8=>?_;have b7:x.w0.heap.size<=(wq.tp T).heap.size:=by rw[o.w0s];exact hs
 refine⟨⟨rfl,rfl,λk hk=>?_,q3k h.gr a7,by rw[<- a6];rfl⟩,B1,B2,rfl,rfl,b6,b0,hne,by omega,by omega⟩;rw[hc k hk];obtain rfl | rfl | rfl | rfl | rfl | rfl | rfl:k=0\/k=1\/k=2\/k=3\/k=4\/k=5\/k=6:=by omega
 all_goals first | rfl | (rw[h4];rfl)
theorem Ok.wp4(h:x.Wk S ρ a tm wq w){i:Nat}(hi:i<x.N)(hb:x.Base i a wq)(hr:x.Rows x.gn x.gx a wq)(T:Nat->qc7->Nat) :
  wR4.wp Tryp.prog (yg λa u=>x.Base i a u/\x.Rows (ovr (x.c i) x.gn x.wl x.wl.length) (ovr (x.c i) x.gx x.wl x.wl.length) a u) a (wq.tp T):=by
 obtain⟨B1,B2,h8,h9,b6,b0,hne,hb1,a6⟩:=hr;have Z:=h.df;obtain⟨z,d⟩:=a;have Z:d=[]:=Z;subst Z;have hY:=o.capv h 4 x.Y (by omega) (by simp[tmp0,tm0]);have hA:=o.capv h 2 x.A (by omega) (by simp[tmp0,tm0]);have hV:=o.capv h 5 x.V (by omega) (by simp[tmp0,tm0]);have hB:=o.capv h 6 x.B (by omega) (by simp[tmp0,tm0]);have hc:=cap_k h.sz h.cap;have hsz:z.size=60:=h.sz;have h7:z[7]?=some (.int .i64 i):=hb.i7;have h8:z[8]?=some (.pointer (some ⟨B1,0,none⟩)):=h8;have h9:z[9]?=some (.pointer (some ⟨B2,0,none⟩)):=h9;have hg:=gr_tp T h.gr;have hs:x.W1.heap.size<=(x.w0.tp T).heap.size:=Nat.le_of_eq o.w0s.symm;generalize ht:(λk:Nat=>z[k]?.getD q5s)=t;have hz:z=#[t 0,t 1,t 2,t 3,t 4,t 5,t 6,t 7,t 8,t 9,t 10,t 11,t 12,t 13,t 14,t 15,t 16,t 17,t 18,t 19,t 20,t 21,t 22,t 23,t 24,t 25,t 26,t 27,t 28,t 29,t 30,t 31,t 32,t 33,t 34,t 35,t 36,t 37,t 38,t 39,t 40,t 41,t 42,t 43,t 44,t 45,t 46,t 47,t 48,t 49,t 50,t 51,t 52,t 53,t 54,t 55,t 56,t 57,t 58,t 59]:=by subst ht;exact arr60 z hsz
 have hY:t 4=.pointer (some ⟨x.Y,0,none⟩):=by subst ht;exact hY
 have hA:t 2=.pointer (some ⟨x.A,0,none⟩):=by subst ht;exact hA
 have hV:t 5=.pointer (some ⟨x.V,0,none⟩):=by subst ht;exact hV
 have hB:t 6=.pointer (some ⟨x.B,0,none⟩):=by subst ht;exact hB
 have hc:∀k,k<7->x.tmp0[k]?=some (t k):=by subst ht;exact hc
 have h7:t 7=.int .i64 i:=by subst ht;show z[7]?.getD q5s=_;rw[h7];rfl
 have h8:t 8=.pointer (some ⟨B1,0,none⟩):=by subst ht;show z[8]?.getD q5s=_;rw[h8];rfl
 have h9:t 9=.pointer (some ⟨B2,0,none⟩):=by subst ht;show z[9]?.getD q5s=_;rw[h9];rfl
 rw[hz];refine piece4 0 x.W1.heap.size t (x.w0.tp T) (wq.tp T) _ x.A x.V _ x.vv x.N i x.c x.wl B1 B2 x.gn x.gx hA (vX o.nA (o.dj _ o.nA) o.hA rfl) (q9z (Q:=Tryp.prog) (jks:=x.jks) o.cas o.dj o.nab) hV (vX o.nV (o.dj _ o.nV) o.hV rfl) (q6a (Q:=Tryp.prog) (jks:=x.jks) o.ints o.dj o.nvv) h7 hi h8 h9 hg b6 b0 hne hb1 a6 hs o.hwl ?_;intro _ _ _ _ _ _ _ _ _ _ _ _ _ _ _ _ _ _ _ _ _ _ _ _ w' a7 a9 a8;refine⟨⟨rfl,rfl,λk hk=>?_,gr_pt a7,rfl⟩,B1,B2,rfl,rfl,a9,a8,hne,hb1,a6⟩;rw[hc k hk];obtain rfl | rfl | rfl | rfl | rfl | rfl | rfl:k=0\/k=1\/k=2\/k=3\/k=4\/k=5\/k=6:=by omega
 all_goals first | rfl | (rw[hA];rfl) | (rw[hV];rfl)
theorem Ok.wp9(h:x.Wk S ρ a tm wq w){i:Nat}(hi:i<x.N)(hb:x.Base i a wq)(hr:x.Rows (ovr (x.c i) x.gn x.wl x.wl.length) (ovr (x.c i) x.gx x.wl x.wl.length) a wq)(T:Nat->qc7->Nat) :
  wR9.wp Tryp.prog (yg λa u=>x.Base i a u/\a.tmps[58]?=some (.bool (x.bad i))) a (wq.tp T):=by
 obtain⟨B1,B2,h8,h9,a8,a7,hne,hb1,a9⟩:=hr;have Z:=h.df;obtain⟨z,d⟩:=a;have Z:d=[]:=Z;subst Z;have hY:=o.capv h 4 x.Y (by omega) (by simp[tmp0,tm0]);have hA:=o.capv h 2 x.A (by omega) (by simp[tmp0,tm0]);have hV:=o.capv h 5 x.V (by omega) (by simp[tmp0,tm0]);have hB:=o.capv h 6 x.B (by omega) (by simp[tmp0,tm0]);have hc:=cap_k h.sz h.cap;have hsz:z.size=60:=h.sz;have h7:z[7]?=some (.int .i64 i):=hb.i7;have h8:z[8]?=some (.pointer (some ⟨B1,0,none⟩)):=h8;have h9:z[9]?=some (.pointer (some ⟨B2,0,none⟩)):=h9;have hg:=gr_tp T h.gr;have hs:x.W1.heap.size<=(x.w0.tp T).heap.size:=Nat.le_of_eq o.w0s.symm;generalize ht:(λk:Nat=>z[k]?.getD q5s)=t;have hz:z=#[t 0,t 1,t 2,t 3,t 4,t 5,t 6,t 7,t 8,t 9,t 10,t 11,t 12,t 13,t 14,t 15,t 16,t 17,t 18,t 19,t 20,t 21,t 22,t 23,t 24,t 25,t 26,t 27,t 28,t 29,t 30,t 31,t 32,t 33,t 34,t 35,t 36,t 37,t 38,t 39,t 40,t 41,t 42,t 43,t 44,t 45,t 46,t 47,t 48,t 49,t 50,t 51,t 52,t 53,t 54,t 55,t 56,t 57,t 58,t 59]:=by subst ht;exact arr60 z hsz
 have hY:t 4=.pointer (some ⟨x.Y,0,none⟩):=by subst ht;exact hY
 have hA:t 2=.pointer (some ⟨x.A,0,none⟩):=by subst ht;exact hA
 have hV:t 5=.pointer (some ⟨x.V,0,none⟩):=by subst ht;exact hV
 have hB:t 6=.pointer (some ⟨x.B,0,none⟩):=by subst ht;exact hB
 have hc:∀k,k<7->x.tmp0[k]?=some (t k):=by subst ht;exact hc
 have h7:t 7=.int .i64 i:=by subst ht;show z[7]?.getD q5s=_;rw[h7];rfl
 have h8:t 8=.pointer (some ⟨B1,0,none⟩):=by subst ht;show z[8]?.getD q5s=_;rw[h8];rfl
 have h9:t 9=.pointer (some ⟨B2,0,none⟩):=by subst ht;show z[9]?.getD q5s=_;rw[h9];rfl
 rw[hz];have ob:∀(g:Nat->Int),(∀d,0<=g d/\g d<=1000)->∀d,0<=ovr (x.c i) g x.wl x.wl.length d/\ovr (x.c i) g x.wl x.wl.length d<=1000:=λg hg d=>by
  unfold ovr;split
  ·exact o.bc i d
  ·exact hg d
 refine piece9 0 x.W1.heap.size t (x.w0.tp T) (wq.tp T) _ x.Y x.B x.yb x.yc x.pv x.ps x.lim x.l B1 B2 _ _ hY (vX o.nY (o.dj _ o.nY) o.hY rfl) (vX o.nY (o.dj _ o.nY) o.hY rfl) (q68 (Q:=Tryp.prog) (jks:=x.jks) o.pars o.dj o.nyb) hB (vX o.nB (o.dj _ o.nB) o.hB rfl) (q6a (Q:=Tryp.prog) (jks:=x.jks) o.intp o.dj o.npv) h8 h9 hg a8 a7 hs o.n5 o.hl o.ll (ob _ o.bmn) (ob _ o.bmx) ?_;intro _ _ _ _ _ _ _ _ _ _ w' a6;refine⟨⟨rfl,rfl,λk hk=>?_,q3k h.gr a6,by rw[<- h7];rfl⟩,rfl⟩;rw[hc k hk];obtain rfl | rfl | rfl | rfl | rfl | rfl | rfl:k=0\/k=1\/k=2\/k=3\/k=4\/k=5\/k=6:=by omega
 all_goals first | rfl | (rw[hY];rfl) | (rw[hB];rfl)
theorem Ok.walk{Stop:Bs->q5r->q3g->Prop}(hSo:∀S g w off,Stop S g w->Stop S { g with offers:=off } w){i:Nat}(hi:i<x.N)(hc:x.Cm w)(h:x.Wk S ρ a tm wq w)(h7:a.tmps[7]?=some (.int .i64 i))
  (hend:∀S' ρ' a' tm' wq' w',x.Cm w'->x.Wk S' ρ' a' tm' wq' w'->a'.tmps[58]?=some (.bool (x.bad i))->qk q8v x.Fz x.cfg.K Stop S' (G ((qbs 139).at ⟨tm',dn x.Wg⟩ (.code wC10::.inBlock 1::ju)) [bot]) w') :
  qk q8v x.Fz x.cfg.K Stop S (G ((qbs 139).at ⟨tm,dn x.Wg⟩ (.code wX::.inBlock 1::ju)) [bot]) w:=by
 rw[wX_eq];refine qk.seq kt ?_;refine o.piece hSo ck3 hc h (λT=>o.wp3 h h7 T) (λa' u hr=>⟨hr.1.df,hr.1.sz,hr.1.cap,hr.1.gr⟩) λS1 ρ1 a1 d5 wq1 w1 a6 c3 a8=>?_;refine qk.seq kt ?_;refine o.piece hSo ck4 c3 a8 (λT=>o.wp4 a8 hi a6.1 a6.2 T) (λa' u hr=>⟨hr.1.df,hr.1.sz,hr.1.cap,hr.1.gr⟩) λS2 ρ2 a2 c9 c8 w2 Z b9 a7=>?_;refine qk.seq kt ?_;refine o.piece hSo ck9 b9 a7 (λT=>o.wp9 a7 hi Z.1 Z.2 T) (λa' u hr=>⟨hr.1.df,hr.1.sz,hr.1.cap,hr.1.gr⟩) λS3 ρ3 a3 b0 a9 w3 b6 b8 b7=>?_;exact hend S3 ρ3 a3 b0 a9 w3 b8 b7 b6.2
end
end Ph4
end Go.Proofs.YtidgnkmjgioapaaGreat
end
section
namespace Go.Proofs.YtidgnkmjgioapaaGreat
open Go Go.RowKit Go.Conc Go.ConcN Go.ConcN.Gen Go.Conc.Lib Go.ConcR.Gen Go.Co Go.Sim
namespace Ph4
section
variable{x:Ph4}
theorem zJ(j:Nat)(ls:Nat->Lam):xh (j+1) ls=xh j ls+(if Jt (ls j) then 1 else 0):=rfl
theorem q7F{j i:Nat}{ls:Nat->Lam}{l:Lam}(h1:Jt (ls i)=false)(h2:Jt l=false):xh j (upd ls i l)=xh j ls:=by
 induction j with
 | zero=>rfl
 | succ j ih =>
  rw[zJ,zJ];rw[ih];by_cases e:j=i
  ·subst e;simp[upd,h1,h2]
  ·simp[upd,e]
theorem q3E{j i:Nat}{ls:Nat->Lam}{l:Lam}(h1:Jt (ls i)=false):xh j ls<=xh j (upd ls i l):=by
 induction j with
 | zero=>exact q5m _
 | succ j ih =>
  rw[zJ,zJ];by_cases e:j=i
  ·subst e;simp[h1];omega
  ·simp[upd,e];omega
theorem cntF_fn{j i:Nat}{ls:Nat->Lam}(hi:i<j)(h1:Jt (ls i)=false):xh j (upd ls i .fn)=xh j ls+1:=by
 induction j with
 | zero=>omega
 | succ j ih =>
  rw[zJ,zJ];by_cases e:j=i
  ·subst e
   have:∀n,n<=j->xh n (upd ls j .fn)=xh n ls:=by
    intro n hn;induction n with
    | zero=>rfl
    | succ n ih2 =>
     rw[zJ,zJ];rw[ih2 (by omega)];simp[upd,show n≠j by omega]
   rw[this j (q5m _),h1,show Jt (upd ls j .fn j)=true from by simp[upd,Jt]];simp
  ·rw[ih (by omega)]
   simp[upd,e];omega
theorem qar{j:Nat}{ls:Nat->Lam}{l:Lam}(h:Jt l=false):xh (j+1) (upd ls j l)=xh j ls:=by
 have:∀n,n<=j->xh n (upd ls j l)=xh n ls:=by
  intro n hn;induction n with
  | zero=>rfl
  | succ n ih2 =>
   rw[zJ,zJ];rw[ih2 (by omega)];simp[upd,show n≠j by omega]
 rw[zJ,this j (q5m _)];simp[upd,h]
theorem hJ0:∀γ j ls,x.J γ j ls->x.J γ (j+1) (upd ls j .st):=by
 rintro γ j ls ⟨h1,h2,h3,h4⟩;refine⟨by rw[qar rfl];exact h1,h2,λhf i hi Z=>?_,λk hk hl=>?_⟩
 ·rcases h3 hf i hi Z with h | ⟨k,hk,h⟩
  ·exact .inl h
  ·exact .inr ⟨k,by omega,by rw[show upd ls j .st k=ls k from by simp[upd,show k≠j by omega]];exact h⟩
 ·by_cases e:k=j
  ·subst e;simp[upd] at hl
  ·rw[show upd ls j .st k=ls k from by simp[upd,e]] at hl
   exact h4 k (by omega) hl
theorem hJ:∀γ j ls i γ' l',x.J γ j ls->i<j->x.Tr γ (ls i) γ' l'->x.J γ' j (upd ls i l'):=by
 rintro γ j ls i γ' l' ⟨h1,h2,h3,h4⟩ hi ht;have hu:∀k,k≠i->upd ls i l' k=ls k:=λk hk=>by simp[upd,hk]
 have hs:upd ls i l' i=l':=by simp[upd]
 rcases ht with⟨hl,rfl,rfl⟩ | ⟨i0,hl,rfl,rfl⟩ | ⟨i0,hl,hb,hiN,rfl,rfl⟩
 ·have a6:Jt (ls i)=false:=by rcases hl with h | ⟨i0,h,_⟩<;>rw[h]<;>rfl
  refine⟨?_,h2,λhf i' a7 a8=>?_,λk hk Z=>?_⟩
  ·by_cases hlt:γ.1<x.N
   ·simp only[hlt,if_true]
    omega
   ·simp only[hlt,if_false]
    rw[cntF_fn hi a6];omega
  ·by_cases e:i'=γ.1
   ·subst e
    exact .inr ⟨i,hi,.inl (by rw[hs,if_pos a7])⟩
   ·rcases h3 hf i' a7 (by have:i'<γ.1+1:=a8;omega) with h | ⟨k,hk,h⟩
    ·exact .inl h
    ·by_cases ek:k=i
     ·subst ek
      rcases hl with hl | ⟨i0,hl,hb⟩
      ·rw[hl] at h;rcases h with h | h<;>cases h
      ·rw[hl] at h
       rcases h with h | h
       ·cases h
       ·cases h;exact .inl hb
     ·exact .inr ⟨k,hk,by rw[hu k ek];exact h⟩
  ·by_cases ek:k=i
   ·subst ek
    rw[hs] at Z;by_cases hlt:γ.1<x.N
    ·rw[if_pos hlt] at Z;cases Z
    ·exact .inr (by show x.N<=γ.1+1;omega)
   ·rw[hu k ek] at Z
    exact(h4 k hk Z).imp id λh=>by show x.N<=γ.1+1;omega
 ·have a6:Jt (ls i)=false:=by rw[hl];rfl
  refine⟨q87 h1 (by have:=q3E (j:=j) (l:=if γ'.2 then Lam.fn else .wk i0) a6;omega),h2,λhf i' a7 a8=>?_,λk hk Z=>?_⟩
  ·rcases h3 hf i' a7 a8 with h | ⟨k,hk,h⟩
   ·exact .inl h
   ·refine .inr ⟨k,hk,?_⟩
    by_cases ek:k=i
    ·subst ek
     rw[hl] at h;rcases h with h | h
     ·cases h
      rw[hs,hf];exact .inr rfl
     ·cases h
    ·rw[hu k ek];exact h
  ·by_cases ek:k=i
   ·subst ek
    rw[hs] at Z;cases hg:γ'.2 with
    | true=>exact .inl rfl
    | false=>rw[hg] at Z;cases Z
   ·rw[hu k ek] at Z
    exact h4 k hk Z
 ·have a6:Jt (ls i)=false:=by rw[hl];rfl
  exact⟨by rw[q7F a6 rfl];exact h1,λ_=>⟨i0,hiN,hb⟩,λhf=>(by cases hf),λk hk Z=>.inl rfl⟩
theorem hm:∀γ l γ' l',x.Tr γ l γ' l'->x.m γ'+nu l'<x.m γ+nu l:=by
 rintro γ l γ' l' ht;unfold m;rcases ht with⟨hl,rfl,rfl⟩ | ⟨i0,rfl,rfl,rfl⟩ | ⟨i0,rfl,hb,hiN,rfl,rfl⟩
 ·have hn:1<=nu l:=by rcases hl with h | ⟨i0,h,_⟩<;>rw[h]<;>simp[nu]
  show 3*(x.N - (γ.1+1))+nu (if γ.1<x.N then .ld γ.1 else .fn)<3*(x.N - γ.1)+nu l;by_cases hlt:γ.1<x.N
  ·rw[if_pos hlt]
   show 3*(x.N - (γ.1+1))+3<_;omega
  ·rw[if_neg hlt]
   show 3*(x.N - (γ.1+1))+0<_;omega
 ·cases γ'.2<;>simp[nu]
 ·simp[nu]
theorem J.final{γ:Nat × Bool}{ls:Nat->Lam}(h:x.J γ (min 4 x.N) ls)(hf:∀i,i<min 4 x.N->fin (ls i)):γ.2=true↔∃i,i<x.N/\x.bad i=true:=by
 obtain⟨h1,h2,h3,h4⟩:=h;refine⟨h2,λ⟨i,hi,hb⟩=>?_⟩;have hfn:∀k,k<min 4 x.N->ls k=.fn:=λk hk=>by
  have:=hf k hk;cases hl:ls k<;>rw[hl] at this<;>first | rfl | exact this.elim
 rcases h4 0 (by omega) (hfn 0 (by omega)) with h | h
 ·exact h
 ·cases hg:γ.2 with
  | true=>rfl
  | false =>
   rcases h3 hg i hi (by omega) with h5 | ⟨k,hk,h5⟩
   ·rw[hb] at h5;cases h5
   ·rw[hfn k hk] at h5;rcases h5 with h5 | h5<;>cases h5
theorem hSo{l:Lam}:∀S g w off,x.cfg.Stop l S g w->x.cfg.Stop l S { g with offers:=off } w:=by
 rintro S g w off ⟨h1,h2⟩;refine⟨h1,?_⟩;rcases h2 with⟨hf,g',e,r⟩ | ⟨hf,hx⟩
 ·exact .inl ⟨hf,g',e,r⟩
 ·exact .inr ⟨hf,λγ hd hj=>hx γ hd hj⟩
variable(o:x.Ok){S:Bs}{w:q3g}{ρ:Ren}{a:Act}{tm:Array q58}{wq:q3g}
include o in
theorem Ok.toA{l:Lam}(hl:l=.st\/∃i,l=.wk i/\x.bad i=false)(hc:x.Cm w)(hk:x.Wk S ρ a tm wq w) :
  qk q8v x.Fz x.cfg.K (x.cfg.Stop l) S (G ((qbs 139).at ⟨tm,dn x.Wg⟩ (.code wLB::ju)) [bot]) w :=
 scriptA kt (o.t1 hk) λ_ h₁=>o.sync1 hl (hc.rely h₁) (hk.rely hc h₁)
theorem toE(hc:x.Cm w)(tm:Array q58)(todo:List qdy):qk q8v x.Fz x.cfg.K (x.cfg.Stop .fn) S (G { (qbs 139).at ⟨tm,dn x.Wg⟩ todo with mode:=.returning } [bot]) w :=
 scriptE kt hc.liv.1 (λ_ _ k=>k.1) (λ_ _ h=>⟨h.1,.inl ⟨trivial,h.2⟩⟩) tm todo
include o in
theorem Ok.hW:∀l S g w,x.WA l S g w->qk q8v x.Fz x.cfg.K (x.cfg.Stop l) S g w:=by
 letI:JunkSet:=x.js
 rintro l S g w ⟨hc,h⟩;have a8:x.A<w.heap.size:=q8m (o.ndlt o.nA) hc.size;cases l with
 | st =>
  rcases h with⟨rfl,hS⟩ | ⟨ρ,a,tm,wq,hk,rfl⟩
  ·exact q4A kt (o.toA (.inl rfl) hc (o.born hc hS))
  ·exact scriptD kt (o.toA (.inl rfl) hc (hk.set 59 (by omega) (kh _)))
 | ld i =>
  obtain⟨hi,ρ,a,tm,wq,hk,rfl⟩:=h;refine scriptB (av:=q5s) kt hk.tsz (o.t2 hk) (o.t3 hk) (λw₁ h₁=>o.cellA (hc.rely h₁)) (o.fz o.nA) a8 hi (by have:=o.hN;omega) (λw₁ h₁=>?_);have a9:=hk.rely hc h₁;have Z:=(((((((a9.set 12 (by omega) (.int .i64 (i+1))).set 13 (by omega) (.int .i64 i)).set 7 (by omega) (.int .i64 i)).set 14 (by omega) (.int .i64 i)).set 15 (by omega) (o.vrA.mono hk.le)).set 16 (by omega) (.int .i64 x.N)).set 17 (by omega) (.bool false)).set 18 (by omega) (.bool false);exact o.sync2 hi (hc.rely h₁) Z (by simp[qav,hk.sz]) (by simp[qav,hk.sz])
 | wk i =>
  obtain⟨hi,ρ,a,tm,wq,hk,h7,a7,rfl⟩:=h;refine q9g kt hk.tsz (hk.bool a7) ?_;have Z:=(hk.set 19 (by omega) (.bool false)).set 20 (by omega) (.bool false);refine o.walk hSo hi hc Z (by simp[qav,h7]) λS' ρ' a' tm' wq' w' a6 hk' h58=>?_;cases hb:x.bad i with
  | false =>
   rw[hb] at h58;exact scriptN kt hk'.tsz (hk'.bool h58) (o.toA (.inr ⟨i,rfl,hb⟩) a6 hk')
  | true =>
   rw[hb] at h58;exact scriptS kt (λw n=>⟨id,id⟩) hk'.tsz (o.t3 hk') (hk'.bool h58) λw₁ h₁=>o.sync3 hi hb (a6.rely h₁) (hk'.rely a6 h₁)
 | fn =>
  obtain⟨ρ,a,tm,wq,hk,⟨i,h1,h2,rfl⟩ | ⟨a7,rfl⟩⟩:=h
  ·exact q9h kt hk.tsz (o.t2 hk) (λw₁ h₁=>o.cellA (hc.rely h₁)) (o.fz o.nA) a8 h1 h2 (toE hc)
  ·exact q9f kt hk.tsz (hk.bool a7) (toE hc)
include o in
theorem Ok.cfg(hAr:∀g w,x.AnchW g w->g.status=.running)(hAn:∀g w,x.AnchW g w->∃m,x.cfg.GM x.cfg.AtW1 m g w)
  (hFin:∀γ ls g w,x.Fin g w->x.J γ (min 4 x.N) ls->(∀i,i<min 4 x.N->fin (ls i))->x.DataAt γ w->x.cfg.Ph w->E q8v x.Post (flat x.clA) g w):x.cfg.Ok where
 hn:=by show min 4 x.N<2147483648;omega
 hlo:=o.hlo
 dat:=λγ w w' h hd=>⟨(h _ (.inl rfl)).trans hd.1,(h _ (.inr rfl)).trans hd.2⟩
 fzc:=λb hb=>⟨hb.2,hb.1⟩
 syc:=λb hb=>by
  have:b∈x.jks:=by rcases hb with rfl | rfl<;>simp[jks]
  exact⟨o.sync b this,o.jlt b this⟩
 cla0:=o.cla0
 wgc:=⟨o.sync _ (by simp[Ph4.cfg,jks]),o.jlt _ (by simp[Ph4.cfg,jks]),λh=>h.elim o.ne2 o.ne3⟩
 hW:=o.hW
 hJ0:=hJ0
 hJ:=hJ
 hm:=hm
 hAr:=hAr
 hAn:=hAn
 hFin:=hFin
end
end Ph4
end Go.Proofs.YtidgnkmjgioapaaGreat
end
section
namespace Go.Proofs.YtidgnkmjgioapaaGreat
open Go Go.RowKit Go.Conc Go.ConcN Go.ConcN.Gen Go.Conc.Lib Go.ConcR.Gen Go.Co Go.Sim
theorem xZ{cl:Nat->Cl}{A o size:Nat}{wr:Bool}(h:cl A=.mine 0)(hs:A<size):EvG cl size 0 ⟨.cell ⟨A,o,none⟩,wr,Mode.plain == Mode.atomic⟩/\jw ⟨.cell ⟨A,o,none⟩,wr,Mode.plain == Mode.atomic⟩:=by
 refine⟨λx hx b hb=>?_,by simp[jw],by simp,by simp⟩;have hx':x=⟨.cell ⟨A,o,none⟩,wr,.plain⟩:=by
  have e:(Mode.plain == Mode.atomic)=false:=by decide
  rw[e] at hx;cases wr<;>(simp[qbv,qcj] at hx;exact hx.symm)
 subst hx';simp only[Go.Co.blk,qaz] at hb;subst hb;exact⟨hs,.inl ⟨h,rfl⟩⟩
theorem Qn{w:q3g}{b o d:Nat}{cs:Array q58}{e:q8u}{f:Nat × Nat}{v:q58}(h:w.heap[b]?=some (.cells cs e f))(hv:cs[o]?=some v):(w.at d).cell? ⟨b,o,none⟩=some v:=qa (w:=w.at d) h hv
structure Nw(w w1:q3g)(B:Nat)(c:Array q58)(e:q8u):Prop where
 eq:w1=w.alloc (.cells c e)
 at_:B=w.heap.size
section
variable{w w1:q3g}{B:Nat}{c:Array q58}{e:q8u}
theorem nw(w:q3g)(c:Array q58)(e:q8u):∃B w1,Nw w w1 B c e:=⟨_,_,⟨rfl,rfl⟩⟩
theorem Nw.size(h:Nw w w1 B c e):w1.heap.size=w.heap.size+1:=by rw[h.eq];simp
theorem Nw.le(h:Nw w w1 B c e):w.heap.size<=w1.heap.size:=by rw[h.size];omega
theorem Nw.lt(h:Nw w w1 B c e):B<w1.heap.size:=by rw[h.size,h.at_];omega
theorem Nw.new(h:Nw w w1 B c e):w1.heap[B]?=some (.cells c e (0,0)):=by
 rw[h.eq,h.at_];unfold World.alloc;exact Array.getElem?_push_size
theorem Nw.old(h:Nw w w1 B c e){b:Nat}(hb:b<w.heap.size):w1.heap[b]?=w.heap[b]?:=by
 rw[h.eq];simp only[World.alloc,Array.getElem?_push];rw[if_neg (by omega)]
theorem Nw.os(h:Nw w w1 B c e):w1.os=w.os:=by rw[h.eq];rfl
theorem Nw.output(h:Nw w w1 B c e):w1.output=w.output:=by rw[h.eq];rfl
end
theorem min4(N:Nat):(if(N:Int)<4 then(N:Int) else 4)=((min 4 N:Nat):Int):=by split<;>omega
theorem ev_min(N:Nat)(w:q3g)(P:q8b):(Builtin.min_ #[3,3] 3 #[.int .i64 4,.int .i64 N]).events P w #[]=#[]:=by
 simp[go_sem,Builtin.min_,Builtin.min2]
theorem YL{P:q8b}{w:q3g}{es:Array qbr}{ad:qb9}{b:Option qb9}{l c:Nat}:(Go.store ad (.slice b l c)).events P w es=storedEv P w es ad (.slice b l c) .plain:=events_store P w es ad _ .plain rfl
structure At5(Q:q8b)[JunkSet](β:Nat)(w:q3g)(cl:Nat->Cl)(ρ:Ren)(yb pb vb ab:Option qb9)(n yc pn pc vn vc N ac:Nat)(lim:Int)(Y B V A Nx Fd Wg:Nat)(σ:Ren)(wq:q3g)(w5:q3g)(cl5:Nat->Cl):Prop where
 wr:WR Q β σ wq w5
 ln:β<=σ.length
 le:Le ρ σ
 fr:∀i j,BR σ i j->BR ρ i j\/w.heap.size<=j
 own:kJ cl5 σ
 kp:yR β 0 w σ w5
 c0:∀b,w5.heap.size<=b->cl5 b=.mine 0
 cold:∀b,b<w.heap.size->cl5 b=cl b
 hY:w5.heap[Y]?=some (.cells #[.slice yb n yc,.int .i64 lim] 91 (0,0))
 hB:w5.heap[B]?=some (.cells #[.slice pb pn pc] 29 (0,0))
 hV:w5.heap[V]?=some (.cells #[.slice vb vn vc] 29 (0,0))
 hA:w5.heap[A]?=some (.cells #[.slice ab N ac] 152 (0,0))
 hNx:w5.heap[Nx]?=some (.cells #[.int .i64 0] 158 (0,0))
 hFd:w5.heap[Fd]?=some (.cells #[.int .u32 0] 161 (0,0))
 hWg:w5.heap[Wg]?=some (.cells #[.int .u64 0,.int .u32 0] 166 (0,0))
 cY:cl5 Y=.mine 0
 cB:cl5 B=.mine 0
 cV:cl5 V=.mine 0
 cA:cl5 A=.mine 0
 cNx:cl5 Nx=.sync
 cFd:cl5 Fd=.sync
 cWg:cl5 Wg=.sync
 l1:w.heap.size<=Nx
 l2:Nx<Fd
 l3:Fd<Wg
noncomputable def x85:qcm:=sqB (sqB (sqB (sqB (sqB (Tryz.f85.body.getD .skip)))))
noncomputable def xU:qcm:=sqB (sqA x85)
noncomputable def xz:qcm:=sqB x85
def tm85(yb pb vb ab:Option qb9)(n yc pn pc vn vc N ac:Nat)(lim:Int)(Y B V A Nx Fd Wg:Nat)(j:Int)(a8 a7 a6 Z:q58):Array q58 :=
 #[.agg #[.slice yb n yc,.int .i64 lim],.slice pb pn pc,.slice vb vn vc,.pointer (some ⟨Y,0,none⟩),.pointer (some ⟨B,0,none⟩),.pointer (some ⟨V,0,none⟩),.bool false,.pointer (some ⟨A,0,none⟩),.pointer (some ⟨Nx,0,none⟩),.pointer (some ⟨Fd,0,none⟩),.pointer (some ⟨Wg,0,none⟩),.agg #[.slice yb n yc,.int .i64 lim],.slice vb vn vc,.slice ab N ac,.slice ab N ac,.int .i64 N,.int .i64 (min 4 N:Nat),.int .i64 j,a8,a7,a6,Z,q5s,q5s]
theorem walk1[JunkSet]{β:Nat}(D:Two Tryp.prog q8v)(hok:JunkSet.okf 137){Rc:q58->q3g->Prop}{yq vq:q58}{wq:q3g}{ρ:Ren}{Post:q58->q3g->Prop}{cl:Nat->Cl}{cs:List q8c}{w:q3g}{yb pb vb:Option qb9}{n yc pn pc vn vc:Nat}{lim:Int}(hc0:∀b,w.heap.size<=b->cl b=.mine 0)
  (g8:β<=ρ.length) (hw:WR Tryp.prog β ρ wq w) (hG:Gl q8v ρ) (hown:kJ cl ρ) (hy:VR ρ yq (.agg #[.slice yb n yc,.int .i64 lim])) (hv:VR ρ vq (.slice vb vn vc)) (g9:∀i,¬ JunkSet.jk i)
  (h8:∀T,qaD Tryp.prog 137 #[yq,vq] (wq.tp T) λe u=>∃v,e=.returned v/\Rc v u) (l9:∀v u,Rc v u->∃b N c,v=.slice b N c)
  (hend:∀σ wq1 v Y B V A Nx Fd Wg ab N ac w5 cl5,Rc v wq1->VR σ v (.slice ab N ac)->At5 Tryp.prog β w cl ρ yb pb vb ab n yc pn pc vn vc N ac lim Y B V A Nx Fd Wg σ wq1 w5 cl5 ->
   EE q8v Post cl5 (G ((q9v 85).at ⟨tm85 yb pb vb ab n yc pn pc vn vc N ac lim Y B V A Nx Fd Wg 0 q5s undef undef undef,[]⟩ [.code xU,.code xz]) cs) w5) :
  EE q8v Post cl (G ((q9v 85).at ⟨#[.agg #[.slice yb n yc,.int .i64 lim],.slice pb pn pc,.slice vb vn vc]++qb4 21 q5s,[]⟩ [.code (Tryz.f85.body.getD .skip)]) cs) w:=by
 simp only[xU,xz,x85,tm85] at hend;simp only[qdv,q88,sqA,sqB,inn] at hend ⊢;refine EE.seq ?_;refine EE.region ?_;simp only[qa0,q8l,q9k,q9F,q9m,qa4,qb6];obtain⟨Y,w1,n1⟩:=nw w #[.slice yb n yc,.int .i64 lim] 91;refine EE.op (.pointer (some ⟨Y,0,none⟩)) w1 cl rfl rfl (by k_ne) (λd=>by rw[n1.eq,n1.at_];go_simp;exact⟨rfl,rfl⟩) (λd=>by simp[go_sem]) n1.le (λ_ _=>rfl) (λb hb=>hc0 b (by have:=n1.size;omega)) ?_;walk_nrm;obtain⟨B,w2,n2⟩:=nw w1 #[.slice pb pn pc] 29;refine EE.op (.pointer (some ⟨B,0,none⟩)) w2 cl rfl rfl (by k_ne) (λd=>by rw[n2.eq,n2.at_];go_simp;exact⟨rfl,rfl⟩) (λd=>by simp[go_sem]) n2.le (λ_ _=>rfl) (λb hb=>hc0 b (by have:=n1.size;have:=n2.size;omega)) ?_;walk_nrm;obtain⟨V,w3,n3⟩:=nw w2 #[.slice vb vn vc] 29;have d5:∀b,w3.heap.size<=b->cl b=.mine 0:=λb hb=>hc0 b (by have:=n1.size;have:=n2.size;have:=n3.size;omega);refine EE.op (.pointer (some ⟨V,0,none⟩)) w3 cl rfl rfl (by k_ne) (λd=>by rw[n3.eq,n3.at_];go_simp;exact⟨rfl,rfl⟩) (λd=>by simp[go_sem]) n3.le (λ_ _=>rfl) d5 ?_;walk_nrm;refine EE.value (.bool false) rfl rfl (by k_ne) (λ_=>by go_simp) (λ_=>by simp[go_sem]) ?_;walk_nrm;refine EE.region_end ?_;refine EE.seq ?_;refine EE.region ?_;simp only[qa0,q8l,q9k,q9F,q9m,qa4,qb6];have hY:w3.heap[Y]?=some (.cells #[.slice yb n yc,.int .i64 lim] 91 (0,0)):=by
  rw[n3.old (q8m n1.lt n2.le),n2.old n1.lt];exact n1.new
 have hB:w3.heap[B]?=some (.cells #[.slice pb pn pc] 29 (0,0)):=by
  rw[n3.old n2.lt];exact n2.new
 have hV:=n3.new;have cY:cl Y=.mine 0:=hc0 _ (by rw[n1.at_];omega);have cB:cl B=.mine 0:=hc0 _ (by rw[n2.at_];exact n1.le);have cV:cl V=.mine 0:=hc0 _ (by rw[n3.at_];exact q87 n1.le n2.le);have sY:Y<w3.heap.size:=q8m n1.lt (q87 n2.le n3.le);have sB:B<w3.heap.size:=q8m n2.lt n3.le;have sV:V<w3.heap.size:=n3.lt;have m6:∀d,(w3.at d).cell? ⟨Y,0,none⟩=some (.slice yb n yc):=λd=>Qn hY rfl;have m5:∀d,(w3.at d).cell? ⟨Y,1,none⟩=some (.int .i64 lim):=λd=>Qn hY rfl;have m8:∀d,(w3.at d).cell? ⟨V,0,none⟩=some (.slice vb vn vc):=λd=>Qn hV rfl;refine EE.op (.agg #[.slice yb n yc,.int .i64 lim]) w3 cl rfl rfl (by k_ne) (λd=>by go_simp) (λd e he=>by
  simp[go_sem,m6,m5] at he;rcases he with rfl | rfl
  ·exact xZ cY sY
  ·exact xZ cY sY) (q5m _) (λ_ _=>rfl) d5 ?_
 walk_nrm;refine EE.op (.slice vb vn vc) w3 cl rfl rfl (by k_ne) (λd=>by go_simp) (λd e he=>by
  simp[go_sem,m8] at he;rw[he];exact xZ cV sV) (q5m _) (λ_ _=>rfl) d5 ?_
 walk_nrm;refine EE.enter rfl rfl (by k_ne) rfl Tryz.func137 (by kernel_rfl) rfl ?_;walk_nrm;have l8:WR Tryp.prog β ρ wq w3:=hw.rely (q87 n1.le (q87 n2.le n3.le)) (by rw[n3.os,n2.os,n1.os]) (λi j hij _=>by
  have hj:=hw.lt i j hij;rw[n3.old (q8m hj (q87 n1.le n2.le)),n2.old (q8m hj n1.le),n1.old hj]) (λi j _ h=>absurd h (g9 i))
 have nY:∀i,¬ BR ρ i Y:=λi h=>by have:=hw.lt _ _ h;rw[n1.at_] at this;omega
 have nB:∀i,¬ BR ρ i B:=λi h=>by have:=hw.lt _ _ h;have:=n1.le;rw[n2.at_] at *;omega
 have nV:∀i,¬ BR ρ i V:=λi h=>by have:=hw.lt _ _ h;have:=n1.le;have:=n2.le;rw[n3.at_] at *;omega
 refine EE.call D (R:=Rc) hok (zd 137 (by decide)) (aq:=#[yq,vq]) (ρ:=ρ) (wq:=wq) ?_ g8 l8 hG h8 rfl rfl hown d5 ?_
 ·refine⟨rfl,λi x y hx hy'=>?_⟩
  have hi:i<2:=by
   have:=(q45.1 hx).1;simpa using this
  obtain rfl | rfl:i=0\/i=1:=by omega
  ·cases hx;cases hy';exact hy
  ·cases hx;cases hy';exact hv
 intro σ wq1 v v' w4 k0 g7 d7 hle c3 d8 h9 a6;obtain⟨l4,N,ac,rfl⟩:=l9 _ _ k0;obtain⟨ab,rfl⟩:∃ab,v'=.slice ab N ac:=by cases g7<;>exact⟨_,rfl⟩
 have fY:∀i,¬ BR σ i Y:=λi h=>(c3 i Y h).elim (nY i) (by omega);have fB:∀i,¬ BR σ i B:=λi h=>(c3 i B h).elim (nB i) (by omega);have fV:∀i,¬ BR σ i V:=λi h=>(c3 i V h).elim (nV i) (by omega);have m4:=(a6.old Y sY λi h=>absurd h (fY i)).trans hY;have m9:=(a6.old B sB λi h=>absurd h (fB i)).trans hB;have m7:=(a6.old V sV λi h=>absurd h (fV i)).trans hV;rw[qcr];walk_nrm;obtain⟨A,w5,n5⟩:=nw w4 #[.slice none 0 0] 152;have e6:∀b,w5.heap.size<=b->cl b=.mine 0:=λb hb=>h9 b (q87 n5.le hb);refine EE.op (.pointer (some ⟨A,0,none⟩)) w5 cl rfl rfl (by k_ne) (λd=>by rw[n5.eq,n5.at_];go_simp;exact⟨rfl,rfl⟩) (λd=>by simp[go_sem]) n5.le (λ_ _=>rfl) e6 ?_;walk_nrm;have cA:cl A=.mine 0:=h9 _ (by rw[n5.at_];omega);have d6:=n5.new;have k8:∀d,(w5.at d).cell? ⟨A,0,none⟩=some (.slice none 0 0):=λd=>Qn d6 rfl;have k5:∀d,(w5.at d).frozen? ⟨A,0,none⟩=false:=λd=>xX (w:=w5.at d) d6;obtain⟨w6,b6⟩:∃w6,w6=w5.setCell ⟨A,0,none⟩ (.slice ab N ac):=⟨_,rfl⟩
 have s6:w6.heap.size=w5.heap.size:=by rw[b6];simp
 refine EE.store w6 rfl rfl (by k_ne) (λd=>by rw[b6];clear b6;go_simp;rfl) (λd e he=>by
  simp[go_sem] at he;rw[YL] at he;simp[storedEv,k8,k5] at he;rw[he];exact xZ cA (by rw[s6];exact n5.lt)) s6 e6 ?_
 walk_nrm;have n4:w6.heap[A]?=some (.cells #[.slice ab N ac] 152 (0,0)):=by
  rw[b6,heap_setCell_same _ _ _ _ _ _ d6];simp
 have g6:∀b,b<w4.heap.size->w6.heap[b]?=w4.heap[b]?:=λb hb=>by
  rw[b6,qdp _ _ _ _ (by rw[n5.at_];show b≠w4.heap.size;omega)];exact n5.old hb
 have g5:w6.os=w4.os:=by rw[b6];exact n5.os
 have l6:w6.output=w4.output:=by rw[b6];exact n5.output
 have m3:∀b,w6.heap.size<=b->cl b=.mine 0:=λb hb=>e6 b (by omega);have s4:w4.heap.size<=w6.heap.size:=by rw[s6];exact n5.le
 have l5:A<w6.heap.size:=by rw[s6];exact n5.lt
 clear b6 k8 k5 d6 s6;refine EE.region_end ?_;refine EE.seq ?_;refine EE.region ?_;simp only[qa0,q8l,q9k,q9F,q9m,qa4,qb6];obtain⟨Nx,w7,n7⟩:=nw w6 #[.int .i64 0] 158;obtain⟨c7,e5⟩:∃c7:Nat->Cl,c7=λb=>if b=Nx then .sync else cl b:=⟨_,rfl⟩
 have a7:∀b,b<w6.heap.size->c7 b=cl b:=λb hb=>by rw[e5];simp only;rw[if_neg (by rw[n7.at_];omega)]
 have b7:∀b,w7.heap.size<=b->c7 b=.mine 0:=λb hb=>by rw[e5];simp only;rw[if_neg (by have:=n7.lt;omega)];exact m3 b (q87 n7.le hb)
 refine EE.op (.pointer (some ⟨Nx,0,none⟩)) w7 c7 rfl rfl (by k_ne) (λd=>by rw[n7.eq,n7.at_];go_simp;exact⟨rfl,rfl⟩) (λd=>by simp[go_sem]) n7.le a7 b7 ?_;walk_nrm;refine EE.region_end ?_;refine EE.seq ?_;refine EE.region ?_;simp only[qa0,q8l,q9k,q9F,q9m,qa4,qb6];obtain⟨Fd,w8,n8⟩:=nw w7 #[.int .u32 0] 161;obtain⟨c8,e4⟩:∃c8:Nat->Cl,c8=λb=>if b=Fd then .sync else c7 b:=⟨_,rfl⟩
 have a8:∀b,b<w7.heap.size->c8 b=c7 b:=λb hb=>by rw[e4];simp only;rw[if_neg (by rw[n8.at_];omega)]
 have b8:∀b,w8.heap.size<=b->c8 b=.mine 0:=λb hb=>by rw[e4];simp only;rw[if_neg (by have:=n8.lt;omega)];exact b7 b (q87 n8.le hb)
 refine EE.op (.pointer (some ⟨Fd,0,none⟩)) w8 c8 rfl rfl (by k_ne) (λd=>by rw[n8.eq,n8.at_];go_simp;exact⟨rfl,rfl⟩) (λd=>by simp[go_sem]) n8.le a8 b8 ?_;walk_nrm;refine EE.region_end ?_;refine EE.seq ?_;refine EE.region ?_;simp only[qa0,q8l,q9k,q9F,q9m,qa4,qb6];obtain⟨Wg,w9,n9⟩:=nw w8 #[.int .u64 0,.int .u32 0] 166;obtain⟨c9,d9⟩:∃c9:Nat->Cl,c9=λb=>if b=Wg then .sync else c8 b:=⟨_,rfl⟩
 have a9:∀b,b<w8.heap.size->c9 b=c8 b:=λb hb=>by rw[d9];simp only;rw[if_neg (by rw[n9.at_];omega)]
 have b9:∀b,w9.heap.size<=b->c9 b=.mine 0:=λb hb=>by rw[d9];simp only;rw[if_neg (by have:=n9.lt;omega)];exact b8 b (q87 n9.le hb)
 refine EE.op (.pointer (some ⟨Wg,0,none⟩)) w9 c9 rfl rfl (by k_ne) (λd=>by rw[n9.eq,n9.at_];go_simp;exact⟨rfl,rfl⟩) (λd=>by simp[go_sem]) n9.le a9 b9 ?_;walk_nrm;have e7:=n7.le;have e8:=n8.le;have e9:=n9.le;have b0:∀b,b<w4.heap.size->w9.heap[b]?=w4.heap[b]?:=λb hb=>by
  rw[n9.old (by omega),n8.old (by omega),n7.old (by omega)];exact g6 b hb
 have Z:∀b,b<w6.heap.size->c9 b=cl b:=λb hb=>by rw[a9 b (by omega),a8 b (by omega),a7 b hb]
 have k7:w9.heap[A]?=some (.cells #[.slice ab N ac] 152 (0,0)):=by
  rw[n9.old (by omega),n8.old (by omega),n7.old (by omega)];exact n4
 refine EE.region_end ?_;refine EE.seq ?_;refine EE.seq ?_;refine EE.region ?_;simp only[qa0,q8l,q9k,q9F,q9m,qa4,qb6];have k6:∀d,(w9.at d).cell? ⟨A,0,none⟩=some (.slice ab N ac):=λd=>Qn k7 rfl;have k9:c9 A=.mine 0:=(Z A l5).trans cA;have l7:A<w9.heap.size:=by omega
 refine EE.op (.slice ab N ac) w9 c9 rfl rfl (by k_ne) (λd=>by go_simp) (λd e he=>by
  simp[go_sem,k6] at he;rw[he];exact xZ k9 l7) (q5m _) (λ_ _=>rfl) b9 ?_
 walk_nrm;refine EE.value (.int .i64 N) rfl rfl (by k_ne) (λ_=>by go_simp) (λ_=>by simp[go_sem]) ?_;walk_nrm;refine EE.value (.int .i64 (min 4 N:Nat)) rfl rfl (by k_ne) (λ_=>by go_simp;rw[min4]) (λ_=>by simp[go_sem];exact ev_min _ _ _) ?_;walk_nrm;refine EE.value (.int .i64 0) rfl rfl (by k_ne) (λ_=>by go_simp) (λ_=>by simp[go_sem]) ?_;walk_nrm;refine EE.region_end ?_;have f4:∀{b:Nat},b<w3.heap.size->b<w4.heap.size:=λh=>q8m h a6.size;refine hend σ wq1 (.slice l4 N ac) Y B V A Nx Fd Wg ab N ac w9 c9 k0 g7 ⟨?_,q87 g8 hle.len,hle,λi j hij=>(c3 i j hij).imp id λh=>q87 (q87 n1.le (q87 n2.le n3.le)) h,?_,⟨?_,?_,?_,?_,λ_ _ _ _=>qa8 _,qa8 _⟩,b9,?_,?_,?_,?_,k7,?_,?_,n9.new,?_,?_,?_,k9,?_,?_,?_,?_,?_,?_⟩
 ·-- wr
  refine d7.rely (by omega) ?_ (λi j hij _=>b0 j (d7.lt i j hij)) (λi j _ h=>absurd h (g9 i));rw[n9.os,n8.os,n7.os,g5]
 ·-- own
  intro i j hij;have hj:=d7.lt i j hij;rw[Z j (by omega)];exact d8 i j hij
 ·-- keep
  intro j hj hn;have h1:w.heap.size<=w3.heap.size:=q87 n1.le (q87 n2.le n3.le);have h2:=a6.size;rw[b0 j (by omega),a6.old j (by omega) hn,n3.old (q8m hj (q87 n1.le n2.le)),n2.old (q8m hj n1.le),n1.old hj]
 ·rw[n9.os,n8.os,n7.os,g5,a6.os,n3.os,n2.os,n1.os]
 ·rw[n9.output,n8.output,n7.output,l6,a6.output,n3.output,n2.output,n1.output]
 ·have h1:w.heap.size<=w3.heap.size:=q87 n1.le (q87 n2.le n3.le)
  have h2:=a6.size;omega
 ·intro b hb
  have h1:w.heap.size<=w3.heap.size:=q87 n1.le (q87 n2.le n3.le);have h2:=a6.size;exact Z b (by omega)
 ·exact(b0 Y (f4 sY)).trans m4
 ·exact(b0 B (f4 sB)).trans m9
 ·exact(b0 V (f4 sV)).trans m7
 ·have:=n7.lt
  rw[n9.old (by omega),n8.old (by omega)];exact n7.new
 ·have:=n8.lt
  rw[n9.old (by omega)];exact n8.new
 ·have:=f4 sY
  rw[Z Y (by omega)];exact cY
 ·have:=f4 sB
  rw[Z B (by omega)];exact cB
 ·have:=f4 sV
  rw[Z V (by omega)];exact cV
 ·have:=n7.lt
  rw[a9 Nx (by omega),a8 Nx (by omega),e5];simp
 ·have:=n8.lt
  rw[a9 Fd (by omega),e4];simp
 ·rw[d9]
  simp
 ·have h1:w.heap.size<=w3.heap.size:=q87 n1.le (q87 n2.le n3.le)
  have h2:=a6.size;rw[n7.at_];omega
 ·have:=n7.lt
  rw[n8.at_];omega
 ·have:=n8.lt
  rw[n9.at_];omega
end Go.Proofs.YtidgnkmjgioapaaGreat
end
section
namespace Go.Proofs.YtidgnkmjgioapaaGreat
open Go Go.RowKit Go.Conc Go.ConcN Go.ConcN.Gen Go.Conc.Lib Go.ConcR.Gen Go.Co Go.Sim
theorem pre_of{Γ Λ:Type}{C:Cfg Γ Λ}{Stop:q5r->q3g->Prop}{a m:Nat}{g:q5r}{w:q3g}(h:Goes C.P true (LR C.ty C.Wg) Go.ConcR.DC0 (λg w=>C.GM Stop m g w) a g w):C.GM Stop (a+m) g w :=
 Cfg.GM.trans (Cfg.GM.of h λ_ _ h=>h)
noncomputable def yz:qcm:=inn (inn xU)
noncomputable def Yx:List qdy:=[.inLoop yz,.inBlock 0,.code xz]
def Km(x:Ph4):q58:=.func (.func 139) #[] (jp x.Wg x.Nx x.A x.Fd x.Y x.V x.B)
def tmx(x:Ph4)(j:Nat)(a b c d e:q58):Array q58 :=
 #[.agg #[.slice x.yb x.ps.length x.yc,.int .i64 x.lim],x.pv,x.vv,.pointer (some ⟨x.Y,0,none⟩),.pointer (some ⟨x.B,0,none⟩),.pointer (some ⟨x.V,0,none⟩),.bool false,.pointer (some ⟨x.A,0,none⟩),.pointer (some ⟨x.Nx,0,none⟩),.pointer (some ⟨x.Fd,0,none⟩),.pointer (some ⟨x.Wg,0,none⟩),.agg #[.slice x.yb x.ps.length x.yc,.int .i64 x.lim],x.vv,.slice x.ab x.N x.ac,.slice x.ab x.N x.ac,.int .i64 x.N,.int .i64 (min 4 x.N:Nat),.int .i64 j,a,b,c,d,e,q5s]
def z18(j:Nat):q58:=if j=0 then q5s else .bool true
def z19(j:Nat):q58:=if j=0 then q5s else .tuple #[]
def z20(x:Ph4)(j:Nat):q58:=if j=0 then q5s else Km x
def z21(j:Nat):q58:=if j=0 then q5s else .int .i64 j
theorem z18_s(j:Nat):z18 (j+1)=.bool true:=by simp[z18]
theorem z19_s(j:Nat):z19 (j+1)=.tuple #[]:=by simp[z19]
theorem z20_s(x:Ph4)(j:Nat):z20 x (j+1)=Km x:=by simp[z20]
theorem z21_s(j:Nat):z21 (j+1)=.int .i64 (j+1:Nat):=by simp[z21]
noncomputable def hd85(x:Ph4)(cs:List q8c)(j:Nat):q5r:=G ((q9v 85).at ⟨tmx x j (z18 j) (z19 j) (z20 x j) (z21 j) q5s,[]⟩ (.code yz::Yx)) cs
section
variable{x:Ph4}{cs:List q8c}
theorem KE{Stop:q5r->q3g->Prop}{m:Nat}{j:Nat}(hj:j<4)(h:∀w,qcF 166 x.Wg w->x.cfg.GM Stop m (hd85 x cs (j+1)) w)(w:q3g)(hF:qcF 166 x.Wg w) :
  x.cfg.GM Stop (7+m) (G ((q9v 85).at ⟨tmx x j (.bool true) (.tuple #[]) (Km x) (z21 j) q5s,[]⟩ (.inRegion (qJ (sqB (inn (sqA (sqB (sqB yz)))))) []::.inBlock 1::.code (sqB (sqB (sqB yz)))::Yx)) cs) w:=by
 refine pre_of ?_;simp only[hd85,Yx,yz,xU,xz,x85,qdv,q88,sqA,sqB,inn,qJ,tmx] at h ⊢;have Z:IntKind.i64.wrap ((j:Int)+1)=j+1:=qa7 _ (by omega);u_c q5t q9 hF;u_c stepG_inBlock q9 hF;u_reg q9 hF;u_op q9 hF;u_op q9 hF;u_c q5t q9 hF;u_c stepG_inLoop q9 hF;refine qca (λw₁ h₁=>?_);have e:=h w₁ (q9 hF h₁);simp only[z18_s,z19_s,z20_s,z21_s,Int.natCast_add,Int.cast_ofNat_Int] at e;exact e
noncomputable def ga85(x:Ph4)(cs:List q8c)(j:Nat):q5r:=G ((q9v 85).at ⟨tmx x j (.bool true) (.tuple #[]) (z20 x j) (z21 j) q5s,[]⟩ (.inRegion (qJ (sqA (inn (sqA (sqB (sqB yz)))))) []::.code (sqB (inn (sqA (sqB (sqB yz)))))::.inBlock 1::.code (sqB (sqB (sqB yz)))::Yx)) cs
theorem q8C{S:q5r->q3g->Prop}{N j:Nat}(hj:j<min 4 x.N)(h:∀w,qcF 166 x.Wg w->x.cfg.GM (x.cfg.AtGoS S) N (ga85 x cs j) w)(w:q3g)(hF:qcF 166 x.Wg w):x.cfg.GM (x.cfg.AtKdS S) 24 (hd85 x cs j) w:=by
 refine Cfg.add_spawn (N:=N) ?_;have hlt:decide ((j:Int)<((min 4 x.N:Nat):Int))=true:=decide_eq_true (by omega);simp only[ga85,hd85,Yx,yz,xU,xz,x85,qdv,q88,sqA,sqB,inn,qJ,tmx] at h ⊢;u_c q89 q9 hF;u_reg q9 hF;u_op q9 hF;u_c q5t q9 hF;u_c q89 q9 hF;u_cond true q9 hF;u_c qbq q9 hF;u_c q89 q9 hF;u_c stepG_block q9 hF;u_c q89 q9 hF;u_reg q9 hF;u_in q9 hF;refine goes_call rfl rfl (by k_ne) rfl JL.f_add (nm_add link) rfl ⟨by u_nil,?_⟩
 walk_nrmf addFn
 exact addPos (L:=link) JL h _ hF
noncomputable def gb85(x:Ph4)(cs:List q8c)(j:Nat):q5r:=G ((q9v 85).at ⟨tmx x j (.bool true) (.tuple #[]) (Km x) (z21 j) q5s,[]⟩ (.inRegion (qJ (sqB (inn (sqA (sqB (sqB yz)))))) []::.inBlock 1::.code (sqB (sqB (sqB yz)))::Yx)) cs
theorem step_go{S:q5r->q3g->Prop}{j:Nat}(h:∀w,qcF 166 x.Wg w->S (gb85 x cs j) w)(w:q3g)(hF:qcF 166 x.Wg w):x.cfg.GM (x.cfg.AtGoS S) (3+0) (ga85 x cs j) w:=by
 refine Cfg.GM.of (C:=x.cfg) (Stop:=x.cfg.AtGoS S) ?_ (λ_ _ h=>h);simp only[gb85,ga85,Yx,yz,xU,xz,x85,qdv,q88,sqA,sqB,inn,qJ,tmx] at h ⊢;u_c q5t q9 hF;u_reg q9 hF;u_op q9 hF;refine qca (λw₁ h₁=>?_);replace hF:=q9 hF h₁;refine⟨rfl,_,born q8v (Kt x.Wg x.Nx x.A x.Fd x.Y x.V x.B),?_,?_,h _ hF⟩
 ·have hs:=stepG_spawn (P:=q8v) (main:=true) (w:=w₁) (w':=w₁) (b:=q9v 85) (cs:=cs) (i:=1) (rest:=[]) (d:=Kt x.Wg x.Nx x.A x.Fd x.Y x.V x.B) (f:=.func 139) (c:=jp x.Wg x.Nx x.A x.Fd x.Y x.V x.B)
   (ops:=(qJ (sqB (inn (sqA (sqB (sqB yz))))))) (o:=(qJ (sqB (inn (sqA (sqB (sqB yz))))))[1]'(by simp only[yz,xU,x85,qdv,q88,sqA,sqB,inn,qJ];decide)) (a:=⟨tmx x j (.bool true) (.tuple #[]) (Km x) (z21 j) q5s,[]⟩) (k:=.inBlock 1::.code (sqB (sqB (sqB yz)))::Yx) (by simp) (by simp only[yz,xU,x85,qdv,q88,sqA,sqB,inn,qJ];rfl) (by k_ne) (by
    simp only[yz,xU,x85,qdv,q88,sqA,sqB,inn,qJ,tmx,Km];go_simp;rfl) rfl
  refine Eq.trans ?_ (hs.trans ?_)
  ·simp only[Yx,yz,xU,xz,x85,qdv,q88,sqA,sqB,inn,qJ,tmx,Km,jp,pt]
   rfl
  ·have he:listed q8v (q9v 85).fn ⟨tmx x j (.bool true) (.tuple #[]) (Km x) (z21 j) q5s,[]⟩ ((qJ (sqB (inn (sqA (sqB (sqB yz))))))[1]'(by simp only[yz,xU,x85,qdv,q88,sqA,sqB,inn,qJ];decide)) w₁=#[]:=by
    unfold listed;have:((execOp (Act.eval ⟨tmx x j (.bool true) (.tuple #[]) (Km x) (z21 j) q5s,[]⟩) ((qJ (sqB (inn (sqA (sqB (sqB yz))))))[1]'(by simp only[yz,xU,x85,qdv,q88,sqA,sqB,inn,qJ];decide))).events q8v w₁ #[])=#[]:=by
     simp only[yz,xU,x85,qdv,q88,sqA,sqB,inn,qJ,tmx,Km];simp[go_sem]
    rw[this,seen_none]
   rw[he];simp only[Yx,yz,xU,xz,x85,qdv,q88,sqA,sqB,inn,qJ,tmx];rfl
 ·rintro hp ⟨γ,hd⟩
  exact⟨⟨⟨hF,γ,hd⟩,hp.fz,hp.size,hp.os⟩,.inl ⟨rfl,λ_ h=>h⟩⟩
noncomputable def fw85(x:Ph4):q8c:=(q9v 85).at ⟨tmx x (min 4 x.N) (.bool false) (z19 (min 4 x.N)) (z20 x (min 4 x.N)) (z21 (min 4 x.N)) q5s,[]⟩ [.inRegion (qJ (sqA xz)) [0],.code (sqB xz)]
noncomputable def fa85(x:Ph4):q8c:=(q9v 85).at ⟨tmx x (min 4 x.N) (.bool false) (z19 (min 4 x.N)) (z20 x (min 4 x.N)) (z21 (min 4 x.N)) (.tuple #[]),[]⟩ [.inRegion (qJ (sqA xz)) [],.code (sqB xz)]
def F0(x:Ph4)(cs:List q8c)(g:q5r)(w:q3g):Prop:=g=G (fa85 x) cs/\qcF 166 x.Wg w
theorem KD(hA:x.AnchW=Zz link x.Wg (fw85 x) cs)(w:q3g)(hF:qcF 166 x.Wg w):x.cfg.GM x.cfg.AtKd 13 (hd85 x cs (min 4 x.N)) w:=by
 refine Cfg.kd_of ?_;have hlt:decide (((min 4 x.N:Nat):Int)<((min 4 x.N:Nat):Int))=false:=decide_eq_false (by omega);have Z:x.cfg.AnchW=Zz link x.Wg (fw85 x) cs:=hA;rw[Z];generalize hn:min 4 x.N=n at hlt;simp only[fw85,hd85,Yx,yz,xU,xz,x85,qdv,q88,sqA,sqB,inn,qJ,tmx,hn];u_c q89 q9 hF;u_reg q9 hF;u_op q9 hF;u_c q5t q9 hF;u_c q89 q9 hF;u_cond false q9 hF;u_exit q9 hF;u_c q89 q9 hF;u_reg q9 hF;u_in q9 hF;refine goes_call rfl rfl (by k_ne) rfl JL.f_wait (nm_wait link) rfl ⟨by u_nil,?_⟩
 walk_nrmf waitFn
 exact Go.Co.waitStart (L:=link) JL _ hF
theorem spawns(hA:x.AnchW=Zz link x.Wg (fw85 x) cs):∀r j,j+r=min 4 x.N->(∀w,qcF 166 x.Wg w->x.cfg.Spawns r (hd85 x cs j) w)/\(0<j->∀w,qcF 166 x.Wg w->x.cfg.Spawns r (gb85 x cs (j - 1)) w):=by
 intro r;induction r with
 | zero =>
  intro j hj;have e:j=min 4 x.N:=by omega
  subst e;refine⟨λw hw=>⟨13,KD hA w hw⟩,λhp w hw=>⟨7+13,?_⟩⟩;have e:min 4 x.N - 1+1=min 4 x.N:=by omega
  exact KE (j:=min 4 x.N - 1) (by omega) (λw hw=>by rw[e];exact KD hA w hw) w hw
 | succ r ih =>
  intro j hj;have hin:=(ih (j+1) (by omega)).2 (by omega);rw[Nat.add_sub_cancel] at hin;have hd:∀w,qcF 166 x.Wg w->x.cfg.GM (x.cfg.AtKdS (x.cfg.Spawns r)) 24 (hd85 x cs j) w:=q8C (N:=3+0) (by omega) (step_go hin);refine⟨λw hw=>⟨24,hd w hw⟩,λhp w hw=>⟨7+24,?_⟩⟩;obtain⟨k,rfl⟩:∃k,j=k+1:=⟨j - 1,by omega⟩
  exact KE (by omega) hd w hw
theorem qaE(hA:x.AnchW=Zz link x.Wg (fw85 x) cs)(g:q5r)(w:q3g)(h:x.AnchW g w):g.status=.running:=by
 rw[hA] at h;obtain⟨T,rfl,_⟩:=h;rfl
theorem anch_w1(hA:x.AnchW=Zz link x.Wg (fw85 x) cs)(Z:x.Fin=λg w=>Goes q8v true (LR 166 x.Wg) Go.ConcR.DC0 (F0 x cs) 40 g w)(g:q5r)(w:q3g)(h:x.AnchW g w):∃m,x.cfg.GM x.cfg.AtW1 m g w:=by
 rw[hA] at h;have h1:=Go.Co.waitRound (L:=link) (Fin:=F0 x cs) JL (b₀:=q9v 85) (a₀:=⟨tmx x (min 4 x.N) (.bool false) (z19 (min 4 x.N)) (z20 x (min 4 x.N)) (z21 (min 4 x.N)) q5s,[]⟩) (ops₀:=qJ (sqA xz)) (i₀:=0) (rest₀:=[]) (k₀:=[.code (sqB xz)]) (cs:=cs) ?_ g w h
 ·refine⟨30,Cfg.GM.of h1 λg w hm=>?_⟩
  refine Cfg.w1_of (C:=x.cfg) (F0:=F0 x cs) (λg w hg=>?_) ?_
  ·show x.Fin g w
   rw[Z];exact hg
  ·have e:x.cfg.AnchW=x.AnchW:=rfl
   rw[e,hA];exact hm
 ·intro w hw
  refine⟨?_,hw⟩;simp only[fa85,xz,x85,qdv,q88,sqA,sqB,inn,qJ,tmx];rfl
end
end Go.Proofs.YtidgnkmjgioapaaGreat
end
section
namespace Go.Co
open Go.Conc Go.ConcN Go.Sim
section
variable{P:q8b}{Post:q58->q3g->Prop}{cl:Nat->Cl}{w:q3g}
theorem EE.of_goes{R:q3g->q3g->Prop}(hR:∀w d,R w (w.at d)){Stop:q5r->q3g->Prop}(hS:∀g d,Stop g (w.at d)->EE P Post cl g w):∀{n:Nat} {g:q5r} {d:Nat},Goes P true R Go.ConcR.DC0 Stop n g (w.at d)->EE P Post cl g w:=by
 intro n;induction n with
 | zero=>exact λ{g d} h=>hS g d (h _ (hR _ _))
 | succ n ih =>
  intro g d h;rcases h with h | ⟨h0,h⟩
  ·exact hS g d (h _ (hR _ _))
  ·refine λd'=>E.step h0 λZ=>?_
   obtain⟨g',w',es,e,⟨d1,d2⟩,hg⟩:=goes_elim (h (w.at Z) (hR (w.at d) Z));subst d1;subst d2;exact⟨g',w.at Z,#[],e,q5m _,by simp,ih hg Z⟩
theorem EE.enterB{b:q8c}{a:Act}{k:List qdy}{cs:List q8c}{ops:Array qbz}{i:Nat}{rest:List Nat}{o:qbz}{f:qbe}{fn:Func}{c:qcm}{args:Array qaH}{Z:Array q8u}(ho:ops[i]?=some o)(hw:qb0 o (yielded ops a.tmps)=true)(hk:b.kind≠.early)
  (hop:o.op=.call { callee:=.value (.func f),args,argTypes:=Z }) (hf:P.funcs[f]?=some fn) (hname:(fn.name == "runtime.NumGoroutine")=false) (hb:fn.body=some c)
  (h:EE P Post cl (G ((base f).at { tmps:=args.map a.eval++qb4 (fn.ntmps - (args.map a.eval).size) q5s,defers:=[] } [.code c]) (b.at a (.inRegion ops (i::rest)::k)::cs)) w) :
  EE P Post cl (G (b.at a (.inRegion ops (i::rest)::k)) cs) w :=
 EE.enter ho hw hk hop hf hname (by rw[hb];rfl) (by rw[enter_at _ hf hb];exact h)
theorem qai{A o size:Nat}(h:cl A=.sync)(hs:A<size):EvG cl size 0 ⟨.cell ⟨A,o,none⟩,false,true⟩/\jw ⟨.cell ⟨A,o,none⟩,false,true⟩:=by
 refine⟨λx hx b hb=>?_,by simp[jw],by simp,by simp⟩;have hx':x=⟨.cell ⟨A,o,none⟩,false,.atomic⟩:=by simp[qbv,qcj] at hx;exact hx.symm
 subst hx';simp only[blk,qaz] at hb;subst hb;exact⟨hs,.inr (.inr ⟨h,by simp,by simp⟩)⟩
end
end Go.Co
namespace Go.Proofs.YtidgnkmjgioapaaGreat
open Go Go.RowKit Go.Conc Go.ConcN Go.ConcN.Gen Go.Conc.Lib Go.ConcR.Gen Go.Co Go.Sim
section
variable{x:Ph4}{cs:List q8c}
theorem after{Post:q58->q3g->Prop}{cl:Nat->Cl}{w:q3g}{v:Bool}(hFd:w.heap[x.Fd]?=some (.cells #[.int .u32 (if v then 1 else 0)] 161 (0,0)))(hcl:cl x.Fd=.sync)(hc0:∀b,w.heap.size<=b->cl b=.mine 0)
  (hend:∀t todo,t.getD 6 q5s=.bool v->EE q8v Post cl (G { (q9v 85).at ⟨t,[]⟩ todo with mode:=.returning } cs) w):EE q8v Post cl (G (fa85 x) cs) w:=by
 have hsz:x.Fd<w.heap.size:=(q45.1 hFd).1;have hcell:∀d,(w.at d).cell? ⟨x.Fd,0,none⟩=some (.int .u32 (if v then 1 else 0)):=λd=>Qn hFd rfl;generalize hn:min 4 x.N=n;simp only[fa85,xz,x85,qdv,q88,sqA,sqB,inn,qJ,tmx,hn];refine EE.region_end ?_;refine EE.seq ?_;refine EE.region ?_;simp only[qa0,q8l,q9k,q9F,q9m,qa4,qb6];refine EE.enterB rfl rfl (by k_ne) rfl Tryz.func142 (by kernel_rfl) rfl ?_
 walk_nrmf Tryz.f142
 refine EE.seq ?_;refine EE.region ?_;simp only[qa0,q8l,q9k,q9F,q9m,qa4,qb6];refine EE.value (.bool false) rfl rfl (by k_ne) (λ_=>by go_simp) (λ_=>by simp[go_sem]) ?_;walk_nrm;refine EE.region_end ?_;refine EE.seq ?_;refine EE.region ?_;simp only[qa0,q8l,q9k,q9F,q9m,qa4,qb6];refine EE.value (.pointer (some ⟨x.Fd,0,none⟩)) rfl rfl (by k_ne) (λ_=>by go_simp) (λ_=>by simp[go_sem]) ?_;walk_nrm;refine EE.value (.pointer (some ⟨x.Fd,0,none⟩)) rfl rfl (by k_ne) (λ_=>by go_simp) (λ_=>by simp[go_sem]) ?_;walk_nrm;refine EE.value (.pointer (some ⟨x.Fd,0,none⟩)) rfl rfl (by k_ne) (λ_=>by go_simp) (λ_=>by simp[go_sem]) ?_;walk_nrm;refine EE.raw w cl rfl (λd=>⟨_,stepG_load_atomic rfl rfl (by k_ne) rfl Tryz.func180 (by kernel_rfl) (by kernel_rfl) (by kernel_rfl) .u32 (by kernel_rfl) rfl (hcell d),?_⟩) (q5m _) (λ_ _=>rfl) hc0 ?_
 ·intro e he
  simp at he;subst he;exact qai hcl hsz
 walk_nrm;clear hcell hFd;cases v with
 | false =>
  simp only[if_false,qa5];refine EE.value (.bool false) rfl rfl (by k_ne) (λ_=>by go_simp) (λ_=>by simp[go_sem]) ?_;walk_nrm;refine EE.value (.bool false) rfl rfl (by k_ne) (λ_=>by go_simp) (λ_=>by simp[go_sem]) ?_;walk_nrm;refine EE.region_end ?_;refine EE.retS ?_;refine EE.leave1 rfl rfl Tryz.func142 rfl ?_;walk_nrm;refine EE.value (.bool false) rfl rfl (by k_ne) (λ_=>by go_simp) (λ_=>by simp[go_sem]) ?_;walk_nrm;refine EE.region_end ?_;refine EE.retS ?_;exact hend _ _ rfl
 | true =>
  simp only[if_true];refine EE.value (.bool true) rfl rfl (by k_ne) (λ_=>by go_simp) (λ_=>by simp[go_sem]) ?_;walk_nrm;refine EE.value (.bool true) rfl rfl (by k_ne) (λ_=>by go_simp) (λ_=>by simp[go_sem]) ?_;walk_nrm;refine EE.region_end ?_;refine EE.retS ?_;refine EE.leave1 rfl rfl Tryz.func142 rfl ?_;walk_nrm;refine EE.value (.bool true) rfl rfl (by k_ne) (λ_=>by go_simp) (λ_=>by simp[go_sem]) ?_;walk_nrm;refine EE.region_end ?_;refine EE.retS ?_;exact hend _ _ rfl
end
end Go.Proofs.YtidgnkmjgioapaaGreat
end
section
namespace Go.Proofs.YtidgnkmjgioapaaGreat
open Go Go.RowKit Go.Conc Go.ConcN Go.ConcN.Gen Go.Conc.Lib Go.ConcR.Gen Go.Co Go.Sim
namespace Ph4
noncomputable def on(x:Ph4)(cs:List q8c):Ph4:={ x with Fin:=λg w=>Goes q8v true (LR 166 x.Wg) Go.ConcR.DC0 (F0 x cs) 40 g w,AnchW:=Zz link x.Wg (fw85 x) cs }
theorem lr_at{ty:q8u}{Wg:Nat}(w:q3g)(d:Nat):LR ty Wg w (w.at d):=λ⟨st,sm,h⟩=>⟨st,sm,h⟩
theorem all{x:Ph4}{cs:List q8c}(o:(x.on cs).Ok)
  (hend:∀t todo w (v:Bool),(v=true↔∃i,i<x.N/\x.bad i=true)->(x.on cs).cfg.Ph w->t.getD 6 q5s=.bool v->EE q8v x.Post (flat x.clA) (G { (q9v 85).at ⟨t,[]⟩ todo with mode:=.returning } cs) w):(x.on cs).cfg.Ok :=
 o.cfg (qaE (cs:=cs) rfl) (anch_w1 (cs:=cs) rfl rfl) λγ ls g w hF hJ hf hd hp=>by
  have Z:Goes q8v true (LR 166 x.Wg) Go.ConcR.DC0 (F0 x cs) 40 g (w.at w.drawn):=hF;refine(EE.of_goes (λw d=>lr_at w d) (λg d hg=>?_) Z) w.drawn;obtain⟨rfl,_⟩:=hg;refine after (v:=γ.2) hd.2 ?_ (λb hb=>?_) λt todo ht=>hend t todo w γ.2 (J.final hJ hf) hp ht
  ·have:=o.sync x.Fd (by simp[jks,on])
   unfold flat;rw[show(x.on cs).clA x.Fd=.sync from this]
  ·have:=o.cla0 b (q87 hp.size hb)
   unfold flat;rw[show(x.on cs).clA b=.mine 0 from this]
end Ph4
def q12(n lo:Nat)(cl:Nat->Cl)(b:Nat):Cl:=match cl b with | .mine 0=>if b<n then .ro lo else .mine 0 | c=>c
theorem JB{n lo b:Nat}{cl:Nat->Cl}(h:cl b=.mine 0)(hb:b<n):q12 n lo cl b=.ro lo:=by unfold q12;rw[h];simp[hb]
theorem Ya{n lo b:Nat}{cl:Nat->Cl}(h:cl b=.mine 0)(hb:n<=b):q12 n lo cl b=.mine 0:=by unfold q12;rw[h];simp;omega
theorem JA{n lo b:Nat}{cl:Nat->Cl}(h:cl b≠.mine 0):q12 n lo cl b=cl b:=by
 unfold q12;cases hc:cl b with
 | mine g =>
  cases g with
  | zero=>exact absurd hc h
  | succ g=>rfl
 | ro lo'=>rfl
 | sync=>rfl
def vU(Y V B A:Nat)(bl:List Nat):List Nat:=0::Y::V::B::A::bl
theorem phase{β:Nat}{Post:q58->q3g->Prop}[JunkSet]{w0:q3g}{cl0:Nat->Cl}{ρ0:Ren}{yb pb vb ab:Option qb9}{ps:List Par}{yc pn pc vn vc N ac:Nat}{lim:Int}{Y B V A Nx Fd Wg:Nat}{σ:Ren}{wq:q3g}{w:q3g}{cl:Nat->Cl}{cs:List q8c}{l wl:List Int}{c:Nat->Nat->Int}{bl:List Nat}
  (h5:At5 Tryp.prog β w0 cl0 ρ0 yb pb vb ab ps.length yc pn pc vn vc N ac lim Y B V A Nx Fd Wg σ wq w cl)
  (c3:∀b∈bl,cl b=.mine 0/\∃cs e f,w.heap[b]?=some (.cells cs e f)/\∀(i:Nat) v,cs[i]?=some v->∃k m,v=.int k m) (h0:∃cs e f,w.heap[0]?=some (.cells cs e f)/\∀(i:Nat) v,cs[i]?=some v->∃k m,v=.int k m) (hc0:cl 0=.mine 0)
  (b6:∀a,yb=some a->a.block∈bl) (b8:∀a,pb=some a->a.block∈bl) (b7:∀a,vb=some a->a.block∈bl) (hab:∀a,ab=some a->a.block∈bl)
  (pars:qr 0 w.heap.size w (.slice yb ps.length yc) ps) (ints:qe 0 w.heap.size w (.slice vb vn vc) wl) (intp:qe 0 w.heap.size w (.slice pb pn pc) l) (cas:kT 0 w.heap.size w (.slice ab N ac) N c)
  (n5:ps.length<=5) (bmn:∀i,0<=pre Par.mn ps ps.length i/\pre Par.mn ps ps.length i<=1000) (bmx:∀i,0<=pre Par.mx ps ps.length i/\pre Par.mx ps ps.length i<=1000) (bc:∀i d,0<=c i d/\c i d<=1000)
  (hl:∀y∈l,0<=y/\y<ps.length) (ll:l.length<=1000) (hwl:∀y∈wl,0<=y/\y<5) (hN:N<=900000)
  (hend:∀t todo w6 cl6 (v:Bool),(v=true↔∃i,i<N/\(qw ps (ovr (c i) (pre Par.mn ps ps.length) wl wl.length) l && !qw ps (ovr (c i) (pre Par.mx ps ps.length) wl wl.length) l)=true)->(∀b,b<w.heap.size->cl b=.mine 0->w6.heap[b]?=w.heap[b]?)->w.heap.size<=w6.heap.size->w6.os=w.os->w6.output=w.output ->
   (∀b,cl b=.mine 0->cl6 b=.mine 0)->(∀b,w6.heap.size<=b->cl6 b=.mine 0)->t.getD 6 q5s=.bool v->EE q8v Post cl6 (G { (q9v 85).at ⟨t,[]⟩ todo with mode:=.returning } cs) w6) :
  EE q8v Post cl (G ((q9v 85).at ⟨tm85 yb pb vb ab ps.length yc pn pc vn vc N ac lim Y B V A Nx Fd Wg 0 q5s undef undef undef,[]⟩ [.code xU,.code xz]) cs) w:=by
 have e1:xU=.block 0 (.loop yz):=by kernel_rfl
 rw[e1];refine EE.block ?_;refine EE.loop ?_;intro d;refine E.crowd (Γ:=Nat × Bool) (Λ:=Lam) λlo hlo=>?_
 let x:Ph4:={ W1:=w.at d,clA:=q12 w.heap.size lo cl,lo:=lo,Wg:=Wg,Nx:=Nx,A:=A,Fd:=Fd,Y:=Y,V:=V,B:=B,ps:=ps,lim:=lim,l:=l,wl:=wl,N:=N,c:=c,yb:=yb,yc:=yc,ab:=ab,ac:=ac,pv:=.slice pb pn pc,vv:=.slice vb vn vc,nds:=vU Y V B A bl,Post:=Post,Fin:=λ_ _=>False,AnchW:=λ_ _=>False }
 have qy:∀{b:Nat} {o:Obj},w.heap[b]?=some o->b<w.heap.size:=λh=>(q45.1 h).1;have a9:∀b∈vU Y V B A bl,cl b=.mine 0/\b<w.heap.size:=by
  intro b hb;simp only[vU,qbx] at hb;obtain⟨c9,e0,f0,h0,b9⟩:=h0;rcases hb with rfl | rfl | rfl | rfl | rfl | hb
  ·exact⟨hc0,qy h0⟩
  ·exact⟨h5.cY,qy h5.hY⟩
  ·exact⟨h5.cV,qy h5.hV⟩
  ·exact⟨h5.cB,qy h5.hB⟩
  ·exact⟨h5.cA,qy h5.hA⟩
  ·obtain⟨k1,cs,e,f,k2,_⟩:=c3 b hb
   exact⟨k1,qy k2⟩
 have c8:∀b∈vU Y V B A bl,x.clA b=.ro lo:=λb hb=>JB (a9 b hb).1 (a9 b hb).2;have b0:∀b∈[Wg,Nx,Fd],cl b=.sync/\b<w.heap.size:=by
  intro b hb;simp only[qbx,qc2,or_false] at hb;rcases hb with rfl | rfl | rfl
  ·exact⟨h5.cWg,qy h5.hWg⟩
  ·exact⟨h5.cNx,qy h5.hNx⟩
  ·exact⟨h5.cFd,qy h5.hFd⟩
 have Z:∀{a:qb9},a.block∈bl->a.block∈vU Y V B A bl:=λh=>by simp[vU,h]
 have d5:∀b∈vU Y V B A bl,BR x.r0 b b:=λb hb=>Jl.2 ⟨(a9 b hb).2,rfl,.inl hb⟩;have a7:∀(q:Option qb9) (m k:Nat),(∀a,q=some a->a.block∈bl)->@VR x.js x.r0 (.slice q m k) (.slice q m k):=λq m k hq=>by
  cases q with
  | none=>exact @VR.sliceNil x.js _ m k
  | some a=>exact @VR.slice x.js _ _ _ a.off a.spot m k (d5 _ (Z (hq a rfl)))
 have a8:∀(v:q58),@VR x.js x.r0 v v->∀(i:Nat) (u:q58),(#[v]:Array q58)[i]?=some u->@VR x.js x.r0 u u:=λv hv i u hu=>by
  cases i with
  | zero=>simp at hu;rw[<- hu];exact hv
  | succ i=>simp at hu
 have o:(x.on cs).Ok:={
  hlo:=hlo
  hY:=h5.hY
  hV:=h5.hV
  hB:=h5.hB
  hA:=h5.hA
  pars:=pars
  ints:=ints
  intp:=intp
  cas:=cas
  n5:=n5
  bmn:=bmn
  bmx:=bmx
  bc:=bc
  hl:=hl
  ll:=ll
  hwl:=hwl
  hN:=hN
  jlt:=λb hb=>(b0 b hb).2
  ne1:=by have:=h5.l2;show Nx≠Fd;omega
  ne2:=by have:=h5.l2;have:=h5.l3;show Wg≠Nx;omega
  ne3:=by have:=h5.l3;show Wg≠Fd;omega
  sync:=λb hb=>by
   have h1:=(b0 b hb).1;exact(JA (by rw[h1];simp)).trans h1
  nro:=c8
  nok:=by
   intro b hb;have hb':b∈vU Y V B A bl:=hb;simp only[vU,qbx] at hb';obtain⟨c9,e0,f0,h0,b9⟩:=h0;rcases hb' with rfl | rfl | rfl | rfl | rfl | hb'
   ·exact⟨_,_,_,h0,λi v hv=>by obtain⟨k,m,rfl⟩:=b9 i v hv;exact @VR.int (x.on cs).js _ k m⟩
   ·refine⟨_,_,_,h5.hY,λi v hv=>?_⟩
    have hi:i=0\/i=1:=by
     have:=(q45.1 hv).1;simp at this;omega
    rcases hi with rfl | rfl
    ·simp at hv
     rw[<- hv];exact a7 _ _ _ b6
    ·simp at hv
     rw[<- hv];exact @VR.int x.js _ _ _
   ·exact⟨_,_,_,h5.hV,a8 _ (a7 _ _ _ b7)⟩
   ·exact⟨_,_,_,h5.hB,a8 _ (a7 _ _ _ b8)⟩
   ·exact⟨_,_,_,h5.hA,a8 _ (a7 _ _ _ hab)⟩
   ·obtain⟨k1,d6,e,f,k2,k3⟩:=c3 b hb'
    refine⟨_,_,_,k2,λi v hv=>?_⟩;obtain⟨k,m,rfl⟩:=k3 i v hv;exact @VR.int x.js _ _ _
  n0:=by show 0∈vU Y V B A bl;simp[vU]
  nY:=by show Y∈vU Y V B A bl;simp[vU]
  nV:=by show V∈vU Y V B A bl;simp[vU]
  nB:=by show B∈vU Y V B A bl;simp[vU]
  nA:=by show A∈vU Y V B A bl;simp[vU]
  nyb:=λq oo n' c' e _=>by cases e;exact Z (a:=⟨q,oo,none⟩) (b6 _ rfl)
  nvv:=λq oo n' c' e _=>by cases e;exact Z (a:=⟨q,oo,none⟩) (b7 _ rfl)
  npv:=λq oo n' c' e _=>by cases e;exact Z (a:=⟨q,oo,none⟩) (b8 _ rfl)
  nab:=λq oo n' c' e _=>by cases e;exact Z (a:=⟨q,oo,none⟩) (hab _ rfl)
  cla0:=λb hb=>by
   have hb':w.heap.size<=b:=hb;exact Ya (h5.c0 b hb') hb' }
 refine⟨(x.on cs).cfg,rfl,rfl,rfl,rfl,Ph4.all o ?_,λb hb=>?_,?_,h5.hWg,(0,false),λ_=>.st,⟨h5.hNx,h5.hFd⟩,?_⟩
 ·intro t todo w6 v hv hp ht
  refine hend t todo w6 _ v hv (λb hb hc=>?_) hp.size hp.os hp.output (λb hb=>?_) (λb hb=>?_) ht
  ·exact hp.fz b ⟨hb,JB hc hb⟩
  ·show flat (q12 w.heap.size lo cl) b=_
   unfold flat;rcases qbF b w.heap.size with a6 | a6
   ·rw[JB hb a6]
   ·rw[Ya hb a6]
  ·show flat (q12 w.heap.size lo cl) b=_
   have a6:w.heap.size<=b:=q87 hp.size hb;unfold flat;rw[Ya (h5.c0 b a6) a6]
 ·have hb':b<w.heap.size:=hb
  cases hc:cl b with
  | mine g =>
   cases g with
   | zero=>exact .inr ⟨rfl,JB hc hb'⟩
   | succ g=>exact .inl ((JA (by rw[hc];simp)).trans hc)
  | ro lo'=>exact .inl ((JA (by rw[hc];simp)).trans hc)
  | sync=>exact .inl ((JA (by rw[hc];simp)).trans hc)
 ·have hsp:=(spawns (x:=x.on cs) (cs:=cs) rfl (min 4 N) 0 (by show 0+min 4 N=min 4 N;omega)).1 (w.at d) ⟨_,_,h5.hWg⟩
  exact hsp
 ·exact⟨qa8 _,λh=>(by cases h),λ_ i _ h=>absurd h (Nat.not_lt_zero i),λk hk=>absurd hk (Nat.not_lt_zero k)⟩
end Go.Proofs.YtidgnkmjgioapaaGreat
end
section
namespace Go.Proofs.YtidgnkmjgioapaaGreat
open Go Go.RowKit Go.Conc Go.ConcN Go.ConcN.Gen Go.Conc.Lib Go.ConcR.Gen Go.Co Go.Sim
def qU(w:q3g)(B:Nat):Prop:=∃cs e f,w.heap[B]?=some (.cells cs e f)/\∀(i:Nat) v,cs[i]?=some v->∃k m,v=.int k m
def qN(w:q3g)(v:q58):Prop:=∀ad n c,v=.slice (some ad) n c->qU w ad.block
section
variable[JunkSet]{Q:q8b}{ρ:Ren}{wq w:q3g}{β:Nat}
theorem ints_eq{cs cs':Array q58}(h:AsR ρ cs cs')(hi:∀(i:Nat) v,cs[i]?=some v->∃k m,v=.int k m):cs'=cs:=by
 refine Array.ext h.1.symm λi h1 h2=>?_;obtain⟨k,m,e⟩:=hi i cs[i] (q9w h2);have hv:=h.2 i _ _ (q9w h2) (q9w h1);rw[e] at hv ⊢;generalize cs'[i]=y at hv;cases hv;rfl
theorem tr_blk(hw:WR Q β ρ wq w)(Z:∀i,¬ JunkSet.jk i){i j:Nat}(hij:BR ρ i j){cs:Array q58}{e:q8u}{f:Nat × Nat}(h:wq.heap[i]?=some (.cells cs e f))(hi:∀(i:Nat) v,cs[i]?=some v->∃k m,v=.int k m):∃f',w.heap[j]?=some (.cells cs e f'):=by
 rcases hw.obj i j _ hij h with⟨h1,_⟩ | ⟨_,o',h2,h3⟩
 ·exact absurd h1 (Z i)
 ·cases h3 with
  | cells e ha _ =>
   rw[ints_eq ha hi] at h2;exact⟨_,h2⟩
theorem tr_int(hw:WR Q β ρ wq w)(Z:∀i,¬ JunkSet.jk i){i j:Nat}(hij:BR ρ i j)(h:qU wq i):qU w j:=by
 obtain⟨cs,e,f,h1,h2⟩:=h;obtain⟨f',h3⟩:=tr_blk hw Z hij h1 h2;exact⟨cs,e,f',h3,h2⟩
theorem q4d(hw:WR Q β ρ wq w)(Z:∀i,¬ JunkSet.jk i){i j:Nat}(hij:BR ρ i j)(hI:qU wq i){cs:Array q58}{e:q8u}{f:Nat × Nat}(h:wq.heap[i]?=some (.cells cs e f)):∃f',w.heap[j]?=some (.cells cs e f')/\j<w.heap.size:=by
 obtain⟨a6,e1,f1,h1,h2⟩:=hI;rw[h] at h1;cases h1;obtain⟨f',h3⟩:=tr_blk hw Z hij h h2;exact⟨f',h3,(q45.1 h3).1⟩
theorem q5x(hw:WR Q β ρ wq w)(Z:∀i,¬ JunkSet.jk i){lo hi:Nat}{v v':q58}{l:List Int}(h:qe lo hi wq v l)(hI:qN wq v)(hv:VR ρ v v'):qe 0 w.heap.size w v' l:=by
 obtain⟨base,cap,rfl,hl,hr⟩:=h;cases hv with
 | sliceNil=>exact⟨none,cap,rfl,hl,λhne=>by obtain⟨B,o,cs,fr,e,_⟩:=hr hne;cases e⟩
 | @slice i j off spot _ _ hij =>
  refine⟨_,cap,rfl,hl,λhne=>?_⟩;obtain⟨B,o,cs,fr,e,_,_,h4,h5⟩:=hr hne;cases e;obtain⟨f',h6,h7⟩:=q4d hw Z hij (hI _ _ _ rfl) h4;exact⟨j,off,cs,f',rfl,qa8 _,h7,h6,h5⟩
theorem tr_pars(hw:WR Q β ρ wq w)(Z:∀i,¬ JunkSet.jk i){lo hi:Nat}{v v':q58}{l:List Par}(h:qr lo hi wq v l)(hI:qN wq v)(hv:VR ρ v v'):qr 0 w.heap.size w v' l:=by
 obtain⟨base,cap,rfl,hl,hr⟩:=h;cases hv with
 | sliceNil=>exact⟨none,cap,rfl,hl,λhne=>by obtain⟨B,o,cs,fr,e,_⟩:=hr hne;cases e⟩
 | @slice i j off spot _ _ hij =>
  refine⟨_,cap,rfl,hl,λhne=>?_⟩;obtain⟨B,o,cs,fr,e,_,_,h4,h5⟩:=hr hne;cases e;obtain⟨f',h6,h7⟩:=q4d hw Z hij (hI _ _ _ rfl) h4;exact⟨j,off,cs,f',rfl,qa8 _,h7,h6,h5⟩
theorem q8k(hw:WR Q β ρ wq w)(Z:∀i,¬ JunkSet.jk i){lo hi:Nat}{v v':q58}{n:Nat}{c:Nat->Nat->Int}(h:kT lo hi wq v n c)(hI:qN wq v)(hv:VR ρ v v'):kT 0 w.heap.size w v' n c:=by
 obtain⟨base,cap,rfl,hl,hr⟩:=h;cases hv with
 | sliceNil=>exact⟨none,cap,rfl,hl,λhne=>by obtain⟨B,o,cs,ty,fr,e,_⟩:=hr hne;cases e⟩
 | @slice i j off spot _ _ hij =>
  refine⟨_,cap,rfl,hl,λhne=>?_⟩;obtain⟨B,o,cs,ty,fr,e,_,_,h4,h5⟩:=hr hne;cases e;obtain⟨f',h6,h7⟩:=q4d hw Z hij (hI _ _ _ rfl) h4;exact⟨j,off,cs,ty,f',rfl,qa8 _,h7,h6,h5⟩
theorem Jw{cl:Nat->Cl}(hw:WR Q β ρ wq w)(Z:∀i,¬ JunkSet.jk i)(ho:kJ cl ρ){q q0:Option qb9}{n c:Nat}(hI:qN wq (.slice q0 n c))(hv:VR ρ (.slice q0 n c) (.slice q n c)):∀ad,q=some ad->cl ad.block=.mine 0/\qU w ad.block:=by
 rintro ad rfl;cases hv with
 | slice off spot _ _ hij=>exact⟨ho _ _ hij,tr_int hw Z hij (hI _ _ _ rfl)⟩
theorem q8e{v:q58}(h:VR ρ q5s v):v=q5s:=by
 unfold q5s at h;cases h with
 | tuple hs _ =>
  have:=Array.eq_empty_of_size_eq_zero (by simpa using hs.symm);rw[this];rfl
theorem agg_of{q:Option qb9}{n c:Nat}{m:Int}{y:q58}(h:VR ρ (.agg #[.slice q n c,.int .i64 m]) y):∃q',y=.agg #[.slice q' n c,.int .i64 m]/\VR ρ (.slice q n c) (.slice q' n c):=by
 cases h with
 | @agg _ a' hs hv =>
  have h2:a'.size=2:=by simpa using hs.symm
  have h0:=hv 0 (.slice q n c) _ rfl (q9w (by omega));have h1:=hv 1 (.int .i64 m) _ rfl (q9w (by omega));obtain⟨q',e0⟩:∃q',a'[0]'(by omega)=.slice q' n c:=by
   generalize a'[0]'(by omega)=z at h0;cases h0<;>exact⟨_,rfl⟩
  have e1:a'[1]'(by omega)=.int .i64 m:=by
   generalize a'[1]'(by omega)=z at h1;cases h1;rfl
  rw[e0] at h0;refine⟨q',?_,h0⟩
  congr 1
  refine Array.ext (by simp[h2]) λi h3 h4=>?_;obtain rfl | rfl:i=0\/i=1:=by omega
  ·exact e0
  ·exact e1
theorem tm_of{x0 x1 x2:q58}{tp:Array q58}{n:Nat}(h:AsR ρ (#[x0,x1,x2]++qb4 n q5s) tp):∃y0 y1 y2,tp=#[y0,y1,y2]++qb4 n q5s/\VR ρ x0 y0/\VR ρ x1 y1/\VR ρ x2 y2:=by
 have hs:tp.size=3+n:=by rw[<- h.1];simp
 have g:∀i (hi:i<tp.size) x,(#[x0,x1,x2]++qb4 n q5s:Array q58)[i]?=some x->VR ρ x tp[i]:=λi hi x hx=>h.2 i x _ hx (q9w hi);refine⟨tp[0]'(by omega),tp[1]'(by omega),tp[2]'(by omega),?_,g 0 (by omega) x0 (by simp[qdk]),g 1 (by omega) x1 (by simp[qdk]),g 2 (by omega) x2 (by simp[qdk])⟩;refine Array.ext (by simp[hs]) λi h1 h2=>?_;by_cases hi:i<3
 ·obtain rfl | rfl | rfl:i=0\/i=1\/i=2:=by omega
  all_goals simp[Array.getElem_append]
 ·have h3:i - 3<n:=by omega
  have e:(#[x0,x1,x2]++qb4 n q5s:Array q58)[i]?=some q5s:=by
   rw[Array.getElem?_append_right (by simp;omega),Array.getElem?_replicate];simp[h3]
  have:=q8e (g i h1 q5s e);rw[this];simp[Array.getElem_append,hi]
end
def Cas(N:Nat)(c:Nat->Nat->Int)(wq:q3g)(v:q58)(u:q3g):Prop:=kT 0 u.heap.size u v N c/\qN u v/\(wq.tp u.tape).grownBy u none
theorem q6l:Tryz.f85.results=#[.tmp 6]:=rfl
theorem qab:Tryz.f85.ntmps=24:=rfl
section
variable[J:JunkSet]{f:qbe}{Post:q58->q3g->Prop}{W:q3g}
theorem EL.doubtful(D:Two Tryp.prog q8v)(hok:JunkSet.okf 137)(Z:∀i,¬ JunkSet.jk i)(hin:Tryp.prog.inits.idxOf? f=none)(hfs:∃g,Tryp.prog.funcs[f]?=some g/\Tryz.prog.funcs[f]?=some g)
  {b:q8c} {a:Act} {k:List qdy} {cs:List q8c} {wq:q3g} (hb:Bot f cs) (hs:Tryp.prog.funcs[b.fn]?=Tryz.prog.funcs[b.fn]?) {ops:Array qbz} {i:Nat} {rest:List Nat} {o:qbz} (ho:ops[i]?=some o) (hw:qb0 o (yielded ops a.tmps)=true)
  {ybq pbq vbq:Option qb9} {ps:List Par} {l wl:List Int} {yc pc vc N:Nat} {c:Nat->Nat->Int} {lim:Int}
  (c3:∀T,(execOp a.eval o).run Tryp.prog (wq.tp T)=.ok (.enter 85 #[.agg #[.slice ybq ps.length yc,.int .i64 lim],.slice pbq l.length pc,.slice vbq wl.length vc]) (wq.tp T))
  (pars:qr 0 wq.heap.size wq (.slice ybq ps.length yc) ps) (yi:qN wq (.slice ybq ps.length yc)) (intp:qe 0 wq.heap.size wq (.slice pbq l.length pc) l) (pi:qN wq (.slice pbq l.length pc)) (ints:qe 0 wq.heap.size wq (.slice vbq wl.length vc) wl) (vi:qN wq (.slice vbq wl.length vc))
  (h0:qU wq 0)
  (n5:ps.length<=5) (bmn:∀i,0<=pre Par.mn ps ps.length i/\pre Par.mn ps ps.length i<=1000) (bmx:∀i,0<=pre Par.mx ps ps.length i/\pre Par.mx ps ps.length i<=1000) (bc:∀i d,0<=c i d/\c i d<=1000)
  (hl:∀y∈l,0<=y/\y<ps.length) (ll:l.length<=1000) (hwl:∀y∈wl,0<=y/\y<5) (hN:N<=900000)
  (d5:∀T,qaD Tryp.prog 137 #[.agg #[.slice ybq ps.length yc,.int .i64 lim],.slice vbq wl.length vc] (wq.tp T) λe u=>∃v,e=.returned v/\Cas N c wq v u)
  (hend:∀u (v:Bool),(v=true↔∃i,i<N/\(qw ps (ovr (c i) (pre Par.mn ps ps.length) wl wl.length) l && !qw ps (ovr (c i) (pre Par.mx ps ps.length) wl wl.length) l)=true)->(wq.tp u.tape).grownBy u none ->
   EL Tryp.prog q8v f Post W (G ((b.at a (.inRegion ops (i::rest)::k)).finish (.bool v)) cs) u) :
  EL Tryp.prog q8v f Post W (G (b.at a (.inRegion ops (i::rest)::k)) cs) wq:=by
 obtain⟨fq,e4,d8⟩:∃fq,Tryp.prog.funcs[85]?=some fq/\fq.ntmps=Tryz.f85.ntmps:=by
  have h1:(Tryp.prog.funcs[85]?).map (·.ntmps)=some 24:=by kernel_rfl
  cases hq:Tryp.prog.funcs[85]? with
  | none=>rw[hq] at h1;cases h1
  | some fq=>rw[hq] at h1;exact⟨fq,rfl,by simpa using h1⟩
 refine EL.enterK D hb hs ho hw c3 ne85 e4 Tryz.func85 d8 (c0:=Tryz.f85.body.getD .skip) (by kernel_rfl) ?_;intro ρ tp c' g5 pre' w cl hcs hK;rw[qab] at hK;obtain⟨y0,y1,y2,rfl,v0,v1,v2⟩:=tm_of (n:=21) (by simpa using hK.tm);obtain⟨yb,rfl,vy⟩:∃yb,y0=.agg #[.slice yb ps.length yc,.int .i64 lim]/\VR ρ (.slice ybq ps.length yc) (.slice yb ps.length yc):=agg_of v0;obtain⟨pb,rfl⟩:∃pb,y1=.slice pb l.length pc:=by cases v1<;>exact⟨_,rfl⟩
 obtain⟨vb,rfl⟩:∃vb,y2=.slice vb wl.length vc:=by cases v2<;>exact⟨_,rfl⟩
 have b6:EE q8v Post cl (G ((q9v 85).at ⟨#[.agg #[.slice yb ps.length yc,.int .i64 lim],.slice pb l.length pc,.slice vb wl.length vc]++qb4 21 q5s,[]⟩ [.code (Tryz.f85.body.getD .skip)]) (c'::pre')) w:=by
  refine walk1 D hok (Rc:=Cas N c wq) hK.c0 hK.ln hK.wr hK.gl hK.own v0 v2 Z d5 (λv u h=>by obtain⟨⟨b1,c1,e,_⟩,_⟩:=h;exact⟨b1,N,c1,e⟩) ?_;intro σ wq1 v Y B V A Nx Fd Wg ab N' ac w5 cl5 e8 b0 h5;obtain⟨a9,d6,a7⟩:=e8;obtain⟨b1,c1,rfl,g7,g8⟩:=id a9;obtain⟨rfl,rfl⟩:N'=N/\ac=c1:=by cases b0<;>exact⟨rfl,rfl⟩
  have gb:∀{B:Nat},qU wq B->qU wq1 B:=λ⟨e9,e,g,h1,h2⟩=>⟨e9,e,g,by rw[a7.block _ (q45.1 h1).1 (by simp)];exact h1,h2⟩
  have gi:∀{v:q58},qN wq v->qN wq1 v:=λh ad n c e=>gb (h ad n c e);have b7:=vy.mono h5.le;have c8:=v1.mono h5.le;have b9:=v2.mono h5.le;have t1:=Jw h5.wr Z h5.own (gi yi) b7;have t2:=Jw h5.wr Z h5.own (gi pi) c8;have t3:=Jw h5.wr Z h5.own (gi vi) b9;have t4:=Jw h5.wr Z h5.own d6 b0
  let bl:List Nat:=(yb.toList++pb.toList++vb.toList++ab.toList).map (·.block)
  have e6:∀b∈bl,cl5 b=.mine 0/\qU w5 b:=by
   intro b hb;simp only[bl,List.mem_map,qcz,Option.mem_toList] at hb;obtain⟨ad,(((h | h) | h) | h),rfl⟩:=hb
   ·exact t1 ad h
   ·exact t2 ad h
   ·exact t3 ad h
   ·exact t4 ad h
  have a6:∀{q:Option qb9},q∈[yb,pb,vb,ab]->∀ad,q=some ad->ad.block∈bl:=by
   intro q hq ad e;subst e;simp only[qbx,qc2,or_false] at hq;simp only[bl,List.mem_map,qcz,Option.mem_toList];refine⟨ad,?_,rfl⟩;rcases hq with h | h | h | h<;>simp[<- h]
  have d7:BR σ 0 0:=(hK.gl 0 (qa8 _)).mono h5.le;refine phase h5 e6 ?_ (h5.own _ _ d7) (a6 (by simp)) (a6 (by simp)) (a6 (by simp)) (a6 (by simp)) (tr_pars h5.wr Z (show qr 0 wq.heap.size wq1 _ ps from pars.kept (w:=wq.tp wq1.tape) a7 (by simp)) (gi yi) b7) (q5x h5.wr Z (show qe 0 wq.heap.size wq1 _ wl from ints.kept (w:=wq.tp wq1.tape) a7 (by simp)) (gi vi) b9) (q5x h5.wr Z (show qe 0 wq.heap.size wq1 _ l from intp.kept (w:=wq.tp wq1.tape) a7 (by simp)) (gi pi) c8) (q8k h5.wr Z a9 d6 b0) n5 bmn bmx bc hl ll hwl hN ?_
  ·obtain⟨cs,e,g,h0,d9⟩:=h0
   have h1:wq1.heap[0]?=some (.cells cs e g):=by rw[a7.block 0 (q45.1 h0).1 (by simp)];exact h0
   exact tr_int h5.wr Z d7 ⟨cs,e,g,h1,d9⟩
  ·intro t todo w6 cl6 v hv hfz hsz c9 hout a8 e5 ht
   have e7:W.heap.size<=w.heap.size:=hK.kp.size;have c5:∀b,b<W.heap.size->cl5 b=.mine 0:=λb hb=>(h5.cold b (q8m hb e7)).trans (hK.om b hb);have g6:w.heap.size<=w5.heap.size:=h5.kp.size;refine EE.pure (g':=G (c'.finish (.bool v)) pre') rfl (λw=>?_) λd=>?_
   ·have hr:(results qdv t).run q8v w=.ok (.bool v) w:=by rw[<- ht];exact results_tmp q6l t q8v w
    exact stepG_leave (P:=q8v) (main:=true) (b:=q9v 85) (a:=⟨t,[]⟩) (cs:=pre') (c:=c') (todo:=todo) (fn:=qdv) rfl rfl Tryz.func85 hr (events_results_tmp q6l _ _)
   ·have b8:WR Tryp.prog W.heap.size σ wq1 w6:=h5.wr.rely hsz (by rw[c9]) (λi j hij _=>hfz j (h5.wr.lt _ _ hij) (h5.own _ _ hij)) (λi j _ h=>absurd h (Z i))
    have hE:=hend wq1 v hv a7;rw[hcs] at hE;refine EL.resume hE hin hfs h5.le hK.top hK.rest (.bool v) (wr_at b8 d) h5.ln hK.gl (λi j hij=>a8 j (h5.own i j hij)) e5 ⟨λj hj hn=>?_,c9.trans (h5.kp.os.trans hK.kp.os),hout.trans (h5.kp.output.trans hK.kp.output),?_,λi j hij hi=>?_,?_⟩ λb hb=>a8 b (c5 b hb)
    ·show w6.heap[j]?=_
     rw[hfz j (by omega) (c5 j hj),h5.kp.old j (by omega) hn,hK.kp.old j hj λi hi=>hn i (hi.mono h5.le)]
    ·show W.heap.size<=w6.heap.size
     omega
    ·rcases h5.fr i j hij with h | h
     ·exact hK.kp.inn i j h hi
     ·omega
    ·show W.heap.size<=w6.heap.size
     omega
 have:=b6 w.drawn;exact this
end
end Go.Proofs.YtidgnkmjgioapaaGreat
end
section
namespace Go.Proofs.YtidgnkmjgioapaaGreat
open Go Go.RowKit Go.Co Go.Sim
def casN(ps:List Par)(wl:List Int):Nat:=(yN ps wl).length
def Kr(ps:List Par)(wl:List Int)(i d:Nat):Int:=((yN ps wl)[i]?.getD λ_=>0) d
theorem casL_bd(ps:List Par)(hp:∀p∈ps,0<=p.mn/\p.mn<=p.mx/\p.mx<=1000)(wl:List Int):∀g∈yN ps wl,∀d,0<=g d/\g d<=1000:=by
 have key:∀(wl:List Int) (L:List (Nat->Int)),(∀g∈L,∀d,0<=g d/\g d<=1000)->∀g∈wl.foldl (kR ps) L,∀d,0<=g d/\g d<=1000:=by
  intro wl;induction wl with
  | nil=>exact λL h=>h
  | cons x wl ih =>
   intro L h;refine ih _ λg hg d=>?_;unfold kR at hg;split at hg
   ·rename_i p Z
    obtain⟨h1,h2,h3⟩:=hp p (q8z Z);unfold yU at hg;rw[List.mem_flatMap] at hg;obtain⟨g0,a6,hg⟩:=hg;unfold kO at hg;rw[List.mem_map] at hg;obtain⟨m,hm,rfl⟩:=hg;rw[qcn] at hm;unfold kOf at hm;unfold Y7;split
    ·omega
    ·exact h g0 a6 d
   ·exact h g hg d
 exact key wl _ λg hg d=>by simp at hg;subst hg;simp
theorem casC_bd(ps:List Par)(hp:∀p∈ps,0<=p.mn/\p.mn<=p.mx/\p.mx<=1000)(wl:List Int)(i d:Nat):0<=Kr ps wl i d/\Kr ps wl i d<=1000:=by
 unfold Kr;cases h:(yN ps wl)[i]? with
 | none=>simp
 | some g=>exact casL_bd ps hp wl g (q8z h) d
theorem cas_of{lo hi:Nat}{yv vv:q58}{ps:List Par}{lim:Int}{wl:List Int}{wq:q3g}(hY:jg lo hi wq yv ps lim)(hI:qe lo hi wq vv wl)(hhi:hi<=wq.heap.size)(h5:ps.length<=5)(hx:∀x∈wl,0<=x/\x<ps.length)
  (hp:∀p∈ps,0<=p.mn/\p.mn<=p.mx/\p.mx<=1000) (hN:∀j,j<=wl.length->(yN ps (wl.take j)).length<=900000) (T:Nat->qc7->Nat) :
  qaD Tryp.prog 137 #[yv,vv] (wq.tp T) λe u=>∃v,e=.returned v/\Cas (casN ps wl) (Kr ps wl) wq v u:=by
 refine(q80 lo hi yv vv ps lim wl (wq.tp T) hY hI hhi h5 hx hp hN).mono ?_;rintro e u ⟨v,rfl,hg,ho,hi⟩;have a7:casN ps wl<=900000:=by have:=hN wl.length (q5m _);rwa [qcc] at this
 refine⟨v,rfl,?_,?_,?_⟩
 ·rcases ho.2 with⟨rfl,h0⟩ | ⟨g,cap,cur,rfl,hb,hgt,_,_,_,htake⟩
  ·have a6:casN ps wl=0:=h0
   exact⟨none,0,by rw[a6],by omega,λh=>by omega⟩
  ·refine⟨_,cap,rfl,by omega,λ_=>⟨g,0,cur,101,_,rfl,qa8 _,(q45.1 hgt).1,hgt,λi hi d hd=>?_⟩⟩
   have Z:i<(yN ps wl).length:=hi;have h1:=q0f (yN ps wl) i _ (q7C Z) d hd;rw[<- htake,List.getElem?_take] at h1;split at h1
   ·rw[q9m]
    unfold Kr;rw[q7C Z];simpa using h1
   ·cases h1
 ·intro ad n c e
  subst e;exact hi ad.block rfl
 ·have ht:u.tape=T:=hg.tape
  rw[ht];exact hg
end Go.Proofs.YtidgnkmjgioapaaGreat
end
section
namespace Go.Proofs.YtidgnkmjgioapaaGreat
open Go Go.RowKit Go.Co Go.Sim Go.Conc Go.ConcN
theorem pre_bd{ps:List Par}{f:Par->Int}(hf:∀p∈ps,0<=f p/\f p<=1000)(k i:Nat):0<=pre f ps k i/\pre f ps k i<=1000:=by
 unfold pre;split
 ·cases h:ps[i]? with
  | none=>simp
  | some p=>exact hf p (q8z h)
 ·simp
def ZT(ps:List Par)(l wl:List Int):Prop:=∃i,i<casN ps wl/\(qw ps (ovr (Kr ps wl i) (pre Par.mn ps ps.length) wl wl.length) l && !qw ps (ovr (Kr ps wl i) (pre Par.mx ps ps.length) wl wl.length) l)=true
section
variable[J:JunkSet]{f:qbe}{Post:q58->q3g->Prop}{W:q3g}
theorem EL.doubt(D:Two Tryp.prog q8v)(hok:JunkSet.okf 137)(a6:∀i,¬ JunkSet.jk i)(hin:Tryp.prog.inits.idxOf? f=none)(hfs:∃g,Tryp.prog.funcs[f]?=some g/\Tryz.prog.funcs[f]?=some g)
  {b:q8c} {a:Act} {k:List qdy} {cs:List q8c} {wq:q3g} (hb:Bot f cs) (hs:Tryp.prog.funcs[b.fn]?=Tryz.prog.funcs[b.fn]?) {ops:Array qbz} {i:Nat} {rest:List Nat} {o:qbz} (ho:ops[i]?=some o) (hw:qb0 o (yielded ops a.tmps)=true)
  {ybq pbq vbq:Option qb9} {ps:List Par} {l wl:List Int} {yc pc vc:Nat} {lim:Int}
  (Z:∀T,(execOp a.eval o).run Tryp.prog (wq.tp T)=.ok (.enter 85 #[.agg #[.slice ybq ps.length yc,.int .i64 lim],.slice pbq l.length pc,.slice vbq wl.length vc]) (wq.tp T))
  (pars:qr 0 wq.heap.size wq (.slice ybq ps.length yc) ps) (yi:qN wq (.slice ybq ps.length yc)) (intp:qe 0 wq.heap.size wq (.slice pbq l.length pc) l) (pi:qN wq (.slice pbq l.length pc)) (ints:qe 0 wq.heap.size wq (.slice vbq wl.length vc) wl) (vi:qN wq (.slice vbq wl.length vc))
  (h0:qU wq 0) (n5:ps.length<=5) (hp:∀p∈ps,0<=p.mn/\p.mn<=p.mx/\p.mx<=1000)
  (hl:∀y∈l,0<=y/\y<ps.length) (ll:l.length<=1000) (hwl:∀y∈wl,0<=y/\y<ps.length) (hN:∀j,j<=wl.length->(yN ps (wl.take j)).length<=900000)
  (hend:∀u (v:Bool),(v=true↔ZT ps l wl)->(wq.tp u.tape).grownBy u none->EL Tryp.prog q8v f Post W (G ((b.at a (.inRegion ops (i::rest)::k)).finish (.bool v)) cs) u) :
  EL Tryp.prog q8v f Post W (G (b.at a (.inRegion ops (i::rest)::k)) cs) wq:=by
 have a7:casN ps wl<=900000:=by have:=hN wl.length (q5m _);rwa [qcc] at this
 exact EL.doubtful D hok a6 hin hfs hb hs ho hw (N:=casN ps wl) (c:=Kr ps wl) Z pars yi intp pi ints vi h0 n5 (pre_bd (λp h=>by have:=hp p h;omega) _) (pre_bd (λp h=>by have:=hp p h;omega) _) (casC_bd ps hp wl) hl ll (λy hy=>by have:=hwl y hy;omega) a7
  (cas_of ⟨_,rfl,pars⟩ ints (q5m _) n5 hwl hp hN) λu v hv hg=>hend u v hv hg
end
end Go.Proofs.YtidgnkmjgioapaaGreat
end
section
namespace Go.Proofs.YtidgnkmjgioapaaGreat
open Go Go.RowKit Go.Co
section
variable{lo hi O:Nat}{w w':q3g}{v:q58}
theorem kx{cs cs':Array q58}{e e':q8u}{f f':Nat × Nat}{B:Nat}(h:w.heap[B]?=some (.cells cs e f))(hO:w.heap[O]?=some (.cells cs' e' f'))(hne:e≠e'):B≠O:=by
 rintro rfl;rw[h] at hO;cases hO;exact hne rfl
theorem qe.kept_ne{l:List Int}(h:qe lo hi w v l)(hg:w.grownBy w' (some O)){cs':Array q58}{f':Nat × Nat}(hO:w.heap[O]?=some (.cells cs' 29 f')):qe lo hi w' v l:=by
 obtain⟨base,cap,rfl,hl,hr⟩:=h;refine⟨base,cap,rfl,hl,λhne=>?_⟩;obtain⟨B,o,cs,fr,e1,e2,e3,e4,e5⟩:=hr hne;exact⟨B,o,cs,fr,e1,e2,e3,blk hg (λe=>kx e4 hO (by decide) (by cases e;rfl)) e4,e5⟩
theorem qr.kept_ne{l:List Par}(h:qr lo hi w v l)(hg:w.grownBy w' (some O)){cs':Array q58}{f':Nat × Nat}(hO:w.heap[O]?=some (.cells cs' 29 f')):qr lo hi w' v l:=by
 obtain⟨base,cap,rfl,hl,hr⟩:=h;refine⟨base,cap,rfl,hl,λhne=>?_⟩;obtain⟨B,o,cs,fr,e1,e2,e3,e4,e5⟩:=hr hne;exact⟨B,o,cs,fr,e1,e2,e3,blk hg (λe=>kx e4 hO (by decide) (by cases e;rfl)) e4,e5⟩
theorem qU.kept_ne{B:Nat}(h:qU w B)(hg:w.grownBy w' (some O)){a:Option qb9}{n c:Nat}{f':Nat × Nat}(hO:w.heap[O]?=some (.cells #[.slice a n c] 29 f')):qU w' B:=by
 obtain⟨cs,e,f,h1,h2⟩:=h;refine⟨cs,e,f,blk hg (λe=>?_) h1,h2⟩;cases e;rw[h1] at hO;cases hO;obtain⟨k,m,e⟩:=h2 0 _ rfl;cases e
theorem qN.kept_ne(h:qN w v)(hg:w.grownBy w' (some O)){a:Option qb9}{n c:Nat}{f':Nat × Nat}(hO:w.heap[O]?=some (.cells #[.slice a n c] 29 f')):qN w' v:=λad m k e=>qU.kept_ne (h ad m k e) hg hO
end
end Go.Proofs.YtidgnkmjgioapaaGreat
end
section
namespace Go.Proofs.YtidgnkmjgioapaaGreat
open Go Go.RowKit Go.Co Go.Sim Go.Conc Go.ConcN
structure xA(w:q3g)(O Y L:Nat)(yb:Option qb9)(ps:List Par)(yc:Nat)(lim:Int)(pb:Option qb9)(l:List Int)(pc:Nat):Prop where
 out:∃b n c,w.heap[O]?=some (.cells #[.slice b n c] 29 (0,0))
 ya:w.heap[Y]?=some (.cells #[.slice yb ps.length yc,.int .i64 lim] 91 (0,0))
 pa:w.heap[L]?=some (.cells #[.slice pb l.length pc] 29 (0,0))
 ne:O≠L
 pars:qr 0 w.heap.size w (.slice yb ps.length yc) ps
 yi:qN w (.slice yb ps.length yc)
 ints:qe 0 w.heap.size w (.slice pb l.length pc) l
 pi:qN w (.slice pb l.length pc)
 h0:qU w 0
theorem xA.kept{w w':q3g}{O Y L:Nat}{yb:Option qb9}{ps:List Par}{yc:Nat}{lim:Int}{pb:Option qb9}{l:List Int}{pc:Nat}(h:xA w O Y L yb ps yc lim pb l pc)(hg:w.grownBy w' (some O))
  (ho:∃b n c,w'.heap[O]?=some (.cells #[.slice b n c] 29 (0,0))):xA w' O Y L yb ps yc lim pb l pc:=by
 obtain⟨b,n,c,hO⟩:=h.out;refine⟨ho,blk hg (λe=>kx h.ya hO (by decide) (by cases e;rfl)) h.ya,blk hg (λe=>h.ne (by cases e;rfl)) h.pa,h.ne,(h.pars.kept_ne hg hO).mono (q5m _) hg.size,h.yi.kept_ne hg hO,(h.ints.kept_ne hg hO).mono (q5m _) hg.size,h.pi.kept_ne hg hO,?_⟩;obtain⟨cs,e,g,h0,Z⟩:=h.h0;refine⟨cs,e,g,blk hg (λe=>?_) h0,Z⟩;cases e;rw[hO] at h0;cases h0;obtain⟨k,m,e⟩:=Z 0 _ rfl;cases e
theorem xA.tp{w:q3g}{O Y L:Nat}{yb:Option qb9}{ps:List Par}{yc:Nat}{lim:Int}{pb:Option qb9}{l:List Int}{pc:Nat}(h:xA w O Y L yb ps yc lim pb l pc)(T:Nat->qc7->Nat):xA (w.tp T) O Y L yb ps yc lim pb l pc :=
 ⟨h.out,h.ya,h.pa,h.ne,h.pars,h.yi,h.ints,h.pi,h.h0⟩
theorem Tryp.func85:Tryp.prog.funcs[85]?=some { qdv with body:=some (.exit 0) }:=by kernel_rfl
section
variable[J:JunkSet]{f:qbe}{Post:q58->q3g->Prop}{W:q3g}
theorem EC.of_body1(D:Two Tryp.prog q8v){fk:qbe}{fn:Func}{c0:qcm}{args:Array q58}{wq:q3g}{R:q58->q3g->Prop}{t:Nat}(hf:Tryp.prog.funcs[fk]?=some fn)(hp:Tryz.prog.funcs[fk]?=some fn)(a6:fn.body=some c0)(hr:fn.results=#[.tmp t])
  (h:∀cs,Bot f cs->(∀tm todo u,R (tm.getD t q5s) u->EL Tryp.prog q8v f Post W (G { (q9v fk).at ⟨tm,[]⟩ todo with mode:=.returning } cs) u) ->
   EL Tryp.prog q8v f Post W (G ((q9v fk).at ⟨args++qb4 (fn.ntmps - args.size) q5s,[]⟩ [.code c0]) cs) wq):EC Tryp.prog q8v f Post W fk args wq R :=
 EC.of_body D hf hp a6 λcs hb Z=>h cs hb λtm todo u hR=>Z ⟨tm,[]⟩ todo u _ rfl (λT=>results_tmp hr _ _ _) hR
structure DbOk(ps:List Par)(l wl:List Int):Prop where
 n5:ps.length<=5
 hp:∀p∈ps,0<=p.mn/\p.mn<=p.mx/\p.mx<=1000
 hl:∀y∈l,0<=y/\y<ps.length
 ll:l.length<=1000
 hwl:∀y∈wl,0<=y/\y<ps.length
 wl1:wl.length<=1000
 hN:∀j,j<=wl.length->(yN ps (wl.take j)).length<=900000
theorem el83(D:Two Tryp.prog q8v)(hok:JunkSet.okf 137)(d9:∀i,¬ JunkSet.jk i)(hin:Tryp.prog.inits.idxOf? f=none)(hfs:∃g,Tryp.prog.funcs[f]?=some g/\Tryz.prog.funcs[f]?=some g)
  {wq:q3g} {O Y L:Nat} {yb:Option qb9} {ps:List Par} {yc:Nat} {lim:Int} {pb:Option qb9} {l:List Int} {pc:Nat} (h:xA wq O Y L yb ps yc lim pb l pc) {vb:Option qb9} {vc:Nat} {wl:List Int} (hw:qe 0 wq.heap.size wq (.slice vb wl.length vc) wl) (d6:qN wq (.slice vb wl.length vc))
  (hne:wl≠[]\/(qbp vb wl.length vc)=.slice none 0 0) (hd:DbOk ps l wl) :
  EC Tryp.prog q8v f Post W 83 #[.slice vb wl.length vc,.pointer (some ⟨O,0,none⟩),.pointer (some ⟨Y,0,none⟩),.pointer (some ⟨L,0,none⟩)] wq
   λv u=>∃d:Bool,v=.bool (!d)/\(d=true↔ZT ps l wl)/\(wq.tp u.tape).grownBy u (some O)/\∃b n c,u.heap[O]?=some (.cells #[.slice b n c] 29 (0,0))/\qe 0 u.heap.size u (.slice b n c) wl:=by
 refine EC.of_body1 D (fn:=Tryz.f83) (c0:=Tryz.f83.body.getD .skip) (t:=5) Tryp.func83 Tryz.func83 (by kernel_rfl) rfl λcs hb a6=>?_;have HR:=q1D a6;clear a6;simp only[Tryz.f83,q88];have hs:Tryp.prog.funcs[(q9v 83).fn]?=Tryz.prog.funcs[(q9v 83).fn]?:=zd 83 (by decide);walk_nrm;refine EL.seq D hb hs ?_;refine EL.piece D hb hs λT=>?_;go_wp2;refine EL.tape (wq:=wq) ?_ T;refine EL.seq D hb hs ?_;refine EL.piece D hb hs λT=>?_;obtain⟨ob,on,oc,hO⟩:=h.out;have HO:=q1D hO;have b7:(wq.tp T).frozen? ⟨O,0,none⟩=false:=qn hO;have b8:(wq.tp T).cell? ⟨O,0,none⟩=some (.slice ob on oc):=qa hO rfl;have hlt:O<(wq.tp T).heap.size:=(q45.1 hO).1;clear hO;go_wp2;refine(ZW 0 wq.heap.size _ wl (wq.tp T) hw (q5m _) hne hd.wl1).mono ?_;rintro e w2 ⟨v',rfl,Z,c8⟩;have e5:=Z.cell b8 (by simp);have b6:=(Z.frozen_far _ hlt (by simp)).trans b7;have a7:=(blk Z (by simp) HO.out)
 have d5:=q1D Z;have a9:=q1D c8;have d8:=Z.size;have c9:=q1D a7;clear Z c8 a7;obtain⟨cb,cc,rfl,-,-⟩:=a9.out.cell;go_wp2;have hg:(wq.tp T).grownBy (w2.setCell ⟨O,0,none⟩ (.slice cb wl.length cc)) (some O):=(d5.out.but (some O)).trans (qg w2 O 0 _);have a8:(w2.setCell ⟨O,0,none⟩ (.slice cb wl.length cc)).heap[O]?=some (.cells #[.slice cb wl.length cc] 29 (0,0)):=by rw[qh c9.out];rfl
 have b9:qe 0 (w2.setCell ⟨O,0,none⟩ (.slice cb wl.length cc)).heap.size (w2.setCell ⟨O,0,none⟩ (.slice cb wl.length cc)) (.slice cb wl.length cc) wl :=
  (a9.out.kept (qg w2 O 0 _) (λR e=>by cases e;exact .inl hlt)).mono (qa8 _) (by simp)
 generalize w2.setCell ⟨O,0,none⟩ (.slice cb wl.length cc)=u at hg a8 b9 ⊢;clear e5 b6 b7 b8 d8 d5 a9 c9;have h3:xA u O Y L yb ps yc lim pb l pc:=xA.kept (h.tp T) hg ⟨_,_,_,a8⟩;have d7:qe 0 u.heap.size u (.slice vb wl.length vc) wl:=(qe.kept_ne (w:=wq.tp T) hw hg HO.out).mono (q5m _) hg.size;have b0:qN u (.slice vb wl.length vc):=qN.kept_ne (w:=wq.tp T) d6 hg HO.out;show EL _ _ _ _ _ _ _;refine EL.seq D hb hs ?_;refine EL.region D hb hs ?_;simp only[qa0,q8l,q9k,q9F,q9m,qa4,qb6];refine EL.list D hb hs [0,1,2] [_,_,_] (rest:=[3,4,5]) rfl λT3=>?_;have c1:(u.tp T3).cell? ⟨Y,0,none⟩=some (.slice yb ps.length yc):=qa h3.ya rfl;have c2:(u.tp T3).cell? ⟨Y,1,none⟩=some (.int .i64 lim):=qa h3.ya rfl;have c3:(u.tp T3).cell? ⟨L,0,none⟩=some (.slice pb l.length pc):=qa h3.pa rfl;go_wp2;refine EL.tape (wq:=u) ?_ T3;refine EL.doubt D hok d9 hin hfs hb hs (ybq:=yb) (pbq:=pb) (vbq:=vb) (ps:=ps) (l:=l) (wl:=wl) (yc:=yc) (pc:=pc) (vc:=vc) (lim:=lim) rfl rfl (λT4=>by rw[run_call_body (f:=85) rfl Tryp.func85 (by kernel_rfl) rfl];walk_nrm) h3.pars h3.yi h3.ints h3.pi d7 b0 h3.h0 hd.n5 hd.hp hd.hl hd.ll hd.hwl hd.hN λu2 d e4 hg2=>?_;rw[qcr];walk_nrm;refine EL.list D hb hs [4,5] [_,_] (rest:=[]) rfl λT5=>?_;go_wp2;refine EL.tape (wq:=u2) ?_ T5;refine EL.region_end D hb hs ?_;refine EL.retS D hb hs ?_;refine HR.out _ _ u2 ⟨d,rfl,e4,?_,cb,wl.length,cc,?_,?_⟩
 ·exact⟨hg2.os.trans hg.os,rfl,hg2.output.trans hg.output,q87 hg.size hg2.size,λk hk hne=>(hg2.block k (q8m hk hg.size) (by simp)).trans (hg.block k hk hne)⟩
 ·exact blk hg2 (by simp) a8
 ·exact(qe.kept (w:=u.tp u2.tape) b9 hg2 (by simp)).mono (q5m _) hg2.size
end
end Go.Proofs.YtidgnkmjgioapaaGreat
end
section
namespace Go.Proofs.YtidgnkmjgioapaaGreat
open Go Go.RowKit Go.Co Go.Sim Go.Conc Go.ConcN
theorem lit41(x:Array q58)(h:x.size=41):∃y0 y1 y2 y3 y4 y5 y6 y7 y8 y9 y10 y11 y12 y13 y14 y15 y16 y17 y18 y19 y20 y21 y22 y23 y24 y25 y26 y27 y28 y29 y30 y31 y32 y33 y34 y35 y36 y37 y38 y39 y40,x=#[y0,y1,y2,y3,y4,y5,y6,y7,y8,y9,y10,y11,y12,y13,y14,y15,y16,y17,y18,y19,y20,y21,y22,y23,y24,y25,y26,y27,y28,y29,y30,y31,y32,y33,y34,y35,y36,y37,y38,y39,y40]:=by
 have e:=Ql x;rw[h] at e;exact⟨_,_,_,_,_,_,_,_,_,_,_,_,_,_,_,_,_,_,_,_,_,_,_,_,_,_,_,_,_,_,_,_,_,_,_,_,_,_,_,_,_,e.trans rfl⟩
structure Jv(w:q3g)(E Lv Gp O Y Lp:Nat)(lb:Option qb9)(lc:Nat)(ws:List Int):Prop where
 en:w.heap[E]?=some (.cells #[.func (.func 83) #[] #[.pointer (some ⟨O,0,none⟩),.pointer (some ⟨Y,0,none⟩),.pointer (some ⟨Lp,0,none⟩)]] 51 (0,0))
 ls:w.heap[Lv]?=some (.cells #[.slice lb ws.length lc] 29 (0,0))
 wsI:qe 0 w.heap.size w (.slice lb ws.length lc) ws
 gr:w.heap[Gp]?=some (.cells #[.func (.func 136) #[] #[.pointer (some ⟨E,0,none⟩),.pointer (some ⟨Lv,0,none⟩),.pointer (some ⟨Gp,0,none⟩)]] 151 (0,0))
 neL:O≠Lv
def j6(p:List Int->Bool):List (List Int)->List Int->Bool × List Int
 | [],o=>(false,o)
 | c::cs,_=>if p c then(true,c) else j6 p cs c
theorem Kx(p:List Int->Bool):∀(a b:List (List Int)) (o:List Int),j6 p (a++b) o=if(j6 p a o).1 then j6 p a o else j6 p b (j6 p a o).2:=by
 intro a;induction a with
 | nil=>intro b o;simp[j6]
 | cons c a ih =>
  intro b o;simp only[q9y,j6];by_cases h:p c=true
  ·simp[h]
  ·simp only[if_neg h];exact ih b c
theorem q3i(w:q3g)(Z old:Nat)(e:q8u):Z<=qdB w Z old e:=by
 unfold qdB;simp only[Question.cut];omega
theorem zc_int(z:Array q58)(hz:zC z.toList)(hp:0<z.size)(n:Nat):zC (qck z n).toList:=q1C hz hp n
theorem q2G{w:q3g}{l:List Int}{zs:Array q58}(hz:zC zs.toList)(hl:l.length<=1000000)(cap:Nat) :
  qe w.heap.size (w.drew.alloc (.cells ((l.map (q9q .i64)).toArray++zs) 3)).heap.size (w.drew.alloc (.cells ((l.map (q9q .i64)).toArray++zs) 3)) (.slice (some ⟨w.heap.size,0,none⟩) l.length cap) l /\
   qN (w.drew.alloc (.cells ((l.map (q9q .i64)).toArray++zs) 3)) (.slice (some ⟨w.heap.size,0,none⟩) l.length cap):=by
 have hh:(w.drew.alloc (.cells ((l.map (q9q .i64)).toArray++zs) 3)).heap[w.heap.size]?=some (.cells ((l.map (q9q .i64)).toArray++zs) 3 (0,0)):=q7j w.drew _;refine⟨⟨_,cap,rfl,by omega,λ_=>⟨w.heap.size,0,_,_,rfl,q5m _,?_,hh,λi hi=>?_⟩⟩,λad n c e=>?_⟩
 ·exact(q45.1 hh).1
 ·rw[q9m,Array.getElem?_append_left (by simpa using hi)]
  simp[q7C hi]
 ·cases e
  refine⟨_,_,_,hh,λi v hv=>?_⟩;have hm:=qby hv;rcases qdc.1 hm with h | h
  ·simp only[qde,List.mem_map] at h
   obtain⟨x,_,rfl⟩:=h;exact⟨_,_,rfl⟩
  ·exact hz v (by simpa using h)
theorem q9i{w:q3g}{nb:Option qb9}{nc B:Nat}{now:List Int}{x:Int}(ty:q8u)(hN:qe 0 w.heap.size w (.slice nb now.length nc) now)(hx:w.cell? ⟨B,0,none⟩=some (.int .i64 x))(hl:now.length<=1000) :
  ∃cap w',(Builtin.append_ #[29,29] ty #[.slice nb now.length now.length,.slice (some ⟨B,0,none⟩) 1 1]).run Tryp.prog w=.ok (.slice (some ⟨w.heap.size,0,none⟩) (now.length+1) cap) w'/\now.length+1<=cap/\w.grownBy w' none /\
   qe w.heap.size w'.heap.size w' (.slice (some ⟨w.heap.size,0,none⟩) (now.length+1) cap) (now++[x])/\qN w' (.slice (some ⟨w.heap.size,0,none⟩) (now.length+1) cap):=by
 obtain⟨i0,b7,b6,a7,b0⟩:=qch Tryp.info3p;have a6:∀j v,([q9q .i64 x]:List q58)[j]?=some v->w.cell? ((⟨B,0,none⟩:qb9).add j)=some v:=λj v hj=>by
  have:j=0:=by have:=(q8w.1 hj).1;simp at this;omega
  subst this;simp at hj;subst hj;simpa[Addr.add] using hx
 have hzi:zC (q9q .i64 0).cells.toList:=λv hv=>by simp[Value.cells] at hv;exact⟨_,_,hv⟩
 have a9:(now++[x]).length=now.length+1:=by simp
 cases nb with
 | none =>
  have h0:now=[]:=by
   refine qbw λhne=>?_;obtain⟨base,cap,e,_,hr⟩:=hN;cases e;obtain⟨B,o,cs,fr,e1,_⟩:=hr hne;cases e1
  subst h0;have hr:=run_append_nil (P:=Tryp.prog) w 29 ty 3 i0 _ Tryp.und29' b7 b6 ⟨B,0,none⟩ 1 1 [q9q .i64 x] (by rw[a7];rfl) a6 (by omega) (by omega) (by rw[b0];omega);have:=q2G (w:=w) (l:=[x]) (zs:=qck (q9q .i64 0).cells (qdB w 1 0 3 - 1)) (zc_int _ hzi (by decide) _) (by simp) (qdB w 1 0 3);exact⟨_,_,hr,q3i _ _ _ _,(qc w none).trans (q34 _ _ none),this.1,this.2⟩
 | some b =>
  have a8:∀j v,(now.map (q9q .i64))[j]?=some v->w.cell? (b.add j)=some v:=λj v hj=>by
   have Z:j<now.length:=by simpa using(q8w.1 hj).1
   obtain⟨base,cap,e,_,hc⟩:=hN.cell;cases e;obtain⟨B',o,e1,_,_,_,h4⟩:=hc (by intro e;rw[e] at Z;simp at Z);cases e1;have h5:=h4 j Z;rw[List.getElem?_map,q7C Z] at hj;rw[q7C Z] at h5;cases hj;exact kF h5
  have hr:=run_append_grow (P:=Tryp.prog) w 29 ty 3 i0 _ Tryp.und29' b7 b6 b now.length now.length (now.map (q9q .i64)) (by rw[a7];simp) a8 ⟨B,0,none⟩ 1 1 [q9q .i64 x] (by rw[a7];rfl) a6 (by omega) (by omega) (growslice_fits (by omega) (by rw[b0];omega));have:=q2G (w:=w) (l:=now++[x]) (zs:=qck (q9q .i64 0).cells (qdB w (now.length+1) now.length 3 - (now.length+1))) (zc_int _ hzi (by decide) _) (by simp;omega) (qdB w (now.length+1) now.length 3);have e:(now.map (q9q .i64)).toArray++[q9q .i64 x].toArray=((now++[x]).map (q9q .i64)).toArray:=by simp
  rw[e] at hr;rw[a9] at this;exact⟨_,_,hr,q3i _ _ _ _,(qc w none).trans (q34 _ _ none),this.1,this.2⟩
section
variable[J:JunkSet]{f:qbe}{Post:q58->q3g->Prop}{W:q3g}
noncomputable def sub:List Nat->qcm->qcm
 | 0::l,.seq a _=>sub l a
 | 1::l,.seq _ b=>sub l b
 | 0::l,.cond _ a _=>sub l a
 | 1::l,.cond _ _ b=>sub l b
 | 0::l,.block _ c=>sub l c
 | 0::l,.loop c=>sub l c
 | _,c=>c
theorem vk{ops:Array qbz}{o:qbz}{a:Act}{w:q3g}{K:Act->q3g->Prop}{Q:Exit->Act->q3g->Prop}{E:Prop}(Z:o.guard=none)(s x:qaH)(hop:o.op=.call { callee:=.builtin .append,args:=#[s,x],argTypes:=#[29,29] })
  {nb:Option qb9} {nc B:Nat} {now:List Int} {y:Int} (hs:a.eval s=.slice nb now.length now.length) (hx:a.eval x=.slice (some ⟨B,0,none⟩) 1 1) (hN:qe 0 w.heap.size w (.slice nb now.length nc) now) (hy:w.cell? ⟨B,0,none⟩=some (.int .i64 y)) (hl:now.length<=1000)
  (h:∀cap w',now.length+1<=cap->w.grownBy w' none->qe w.heap.size w'.heap.size w' (.slice (some ⟨w.heap.size,0,none⟩) (now.length+1) cap) (now++[y])->qN w' (.slice (some ⟨w.heap.size,0,none⟩) (now.length+1) cap)->K (a.put o.dst (.slice (some ⟨w.heap.size,0,none⟩) (now.length+1) cap)) w') :
  if qb0 o (yielded ops a.tmps)=true then Oper.wp Tryp.prog o a w K Q else E:=by
 rw[if_pos (by simp[qb0,Z])];obtain⟨cap,w',hr,h1,h2,h3,h4⟩:=q9i o.type hN hy hl;unfold Oper.wp execOp;simp only[hop,resolve,invoke,builtin,qbB,Sem.run_pure,qbC,List.map_toArray,List.map_cons,List.map_nil,hs,hx,hr];exact h cap w' h1 h2 h3 h4
noncomputable def q4C:qcm->Array qbz
 | .region _ ops _=>ops
 | _=>#[]
theorem reg6(D:Two Tryp.prog q8v){cs:List q8c}{k:List qdy}(hb:Bot f cs){u:q3g}{E Lv Gp O Y Lp LB lo:Nat}{nb:Option qb9}{lc nc i m:Nat}{ws now:List Int}{x:Int}{y1 y3 y6 y7 y8 y9 y11 y12 y13 y14 y15 y16 y17 y18 y19 y20 y21 y22 y23 y24 y25 y26 y27 y28 y29 y30 y31 y32 y33 y34 y35 y36 y37 y38 y39 y40:q58}(hG:Jv u E Lv Gp O Y Lp (some ⟨LB,lo,none⟩) lc ws)
  (hN:qe 0 u.heap.size u (.slice nb now.length nc) now) (hnc:now.length<=nc) (hi:i<ws.length) (hx:u.cell? ⟨LB,lo+i,none⟩=some (.int .i64 x)) (hm:m<=1000) (hl:now.length<=1000) (hw:ws.length<=1000)
  (hend:∀g cap u',now.length+1<=cap->(u.tp u'.tape).grownBy u' none->qe 0 u'.heap.size u' (.slice (some ⟨g,0,none⟩) (now.length+1) cap) (now++[x])->qN u' (.slice (some ⟨g,0,none⟩) (now.length+1) cap) ->
   EL Tryp.prog q8v f Post W (G ((q9v 136).at ⟨#[(.slice nb now.length nc),y1,(.int .i64 (m+1:Nat)),y3,(.pointer (some ⟨Lv,0,none⟩)),(.pointer (some ⟨Gp,0,none⟩)),y6,y7,y8,y9,(.int .i64 i),y11,y12,y13,y14,y15,y16,y17,y18,y19,y20,y21,y22,(.func (.func 136) #[] #[.pointer (some ⟨E,0,none⟩),.pointer (some ⟨Lv,0,none⟩),.pointer (some ⟨Gp,0,none⟩)]),(.slice nb now.length nc),(.slice nb now.length nc),(.int .i64 now.length),(.slice nb now.length nc),(.int .i64 now.length),(.slice nb now.length now.length),(.slice (some ⟨LB,lo,none⟩) ws.length lc),(.int .i64 i),(.pointer (some ⟨LB,lo+i,none⟩)),(.int .i64 x),(.slice (some ⟨u.heap.size,0,none⟩) 1 1),(.slice (some ⟨g,0,none⟩) (now.length+1) cap),(.int .i64 i),(.int .i64 (i+1:Nat)),(.int .i64 (m+1:Nat)),(.int .i64 m),y40],[]⟩ (.inRegion (q4C (sub [1,1,0,1,0,0,1,0,0,0] (Tryz.f136.body.getD .skip))) [17]::k)) cs) u') :
  EL Tryp.prog q8v f Post W (G ((q9v 136).at ⟨#[(.slice nb now.length nc),y1,(.int .i64 (m+1:Nat)),y3,(.pointer (some ⟨Lv,0,none⟩)),(.pointer (some ⟨Gp,0,none⟩)),y6,y7,y8,y9,(.int .i64 i),y11,y12,y13,y14,y15,y16,y17,y18,y19,y20,y21,y22,y23,y24,y25,y26,y27,y28,y29,y30,y31,y32,y33,y34,y35,y36,y37,y38,y39,y40],[]⟩ (.code (sub [1,1,0,1,0,0,1,0,0,0] (Tryz.f136.body.getD .skip))::k)) cs) u:=by
 have hs:Tryp.prog.funcs[(q9v 136).fn]?=Tryz.prog.funcs[(q9v 136).fn]?:=zd 136 (by decide);simp only[Tryz.f136,q88,sub,q4C] at hend ⊢;have HE:=q1D hend;clear hend;refine EL.region_last D hb hs (n:=17) (by kernel_rfl) (by kernel_rfl) rfl (by kernel_rfl) λT=>?_;generalize he:qS _ 17=ops';simp only[qS,jQ,List.modify_toArray,List.modify_succ_cons,List.modify_zero_cons] at he;subst he;have c0:(u.tp T).cell? ⟨Gp,0,none⟩=some (.func (.func 136) #[] #[.pointer (some ⟨E,0,none⟩),.pointer (some ⟨Lv,0,none⟩),.pointer (some ⟨Gp,0,none⟩)]):=qa hG.gr rfl;have c1:(u.tp T).cell? ⟨Lv,0,none⟩=some (.slice (some ⟨LB,lo,none⟩) ws.length lc):=qa hG.ls rfl;have c2:(u.tp T).cell? ⟨LB,lo+i,none⟩=some (.int .i64 x):=hx;have HN:=q1D (show qe 0 (u.tp T).heap.size (u.tp T) (.slice nb now.length nc) now from hN);clear hN hx;have a6:IntKind.i64.wrap ((i:Int)+1)=((i+1:Nat):Int):=by simp[qes];omega
 have Z:IntKind.i64.wrap (m:Int)=(m:Int):=by simp only[qes];omega
 change wpAny _ _ _ _ _ _ _ (World.drew (u.tp T));generalize hv:u.tp T=v at c0 c1 c2 HN ⊢;have HV:=q1D hv;clear hv;refine qdb (i:=1) (v:=?_) rfl (by kernel_rfl) (by kernel_rfl) (by kernel_rfl) (λ_ _ _ h=>h) (Or.inl ⟨by rfl,?_⟩) ?_;rotate_left
 ·(intro w;go_simp;try with_reducible rfl)
 refine qdb (i:=2) (v:=?_) rfl (by kernel_rfl) (by kernel_rfl) (by kernel_rfl) (λ_ _ _ h=>h) (Or.inl ⟨by rfl,?_⟩) ?_;rotate_left
 ·(intro w;go_simp;try with_reducible rfl)
 refine qdb (i:=3) (v:=?_) rfl (by kernel_rfl) (by kernel_rfl) (by kernel_rfl) (λ_ _ _ h=>h) (Or.inl ⟨by rfl,?_⟩) ?_;rotate_left
 ·(intro w;go_simp;try with_reducible rfl)
 refine qdb (i:=4) (v:=?_) rfl (by kernel_rfl) (by kernel_rfl) (by kernel_rfl) (λ_ _ _ h=>h) (Or.inl ⟨by rfl,?_⟩) ?_;rotate_left
 ·(intro w;go_simp;try with_reducible rfl)
 refine qdb (i:=5) (v:=?_) rfl (by kernel_rfl) (by kernel_rfl) (by kernel_rfl) (λ_ _ _ h=>h) (Or.inl ⟨by rfl,?_⟩) ?_;rotate_left
 ·(intro w;go_simp;try with_reducible rfl)
 refine qdb (i:=6) (v:=?_) rfl (by kernel_rfl) (by kernel_rfl) (by kernel_rfl) (λ_ _ _ h=>h) (Or.inl ⟨by rfl,?_⟩) ?_;rotate_left
 ·(intro w;go_simp;try with_reducible rfl)
 refine qdb (i:=8) (v:=?_) rfl (by kernel_rfl) (by kernel_rfl) (by kernel_rfl) (λ_ _ _ h=>h) (Or.inl ⟨by rfl,?_⟩) ?_;rotate_left
 ·(intro w;go_simp;try with_reducible rfl)
 refine qdb (i:=13) (v:=?_) rfl (by kernel_rfl) (by kernel_rfl) (by kernel_rfl) (λ_ _ _ h=>h) (Or.inl ⟨by rfl,?_⟩) ?_;rotate_left
 ·(intro w;go_simp;try with_reducible rfl)
 refine qdb (i:=14) (v:=?_) rfl (by kernel_rfl) (by kernel_rfl) (by kernel_rfl) (λ_ _ _ h=>h) (Or.inl ⟨by rfl,?_⟩) ?_;rotate_left
 ·(intro w;go_simp;try with_reducible rfl)
 refine qdb (i:=15) (v:=?_) rfl (by kernel_rfl) (by kernel_rfl) (by kernel_rfl) (λ_ _ _ h=>h) (Or.inl ⟨by rfl,?_⟩) ?_;rotate_left
 ·(intro w;go_simp;try with_reducible rfl)
 refine qdb (i:=16) (v:=?_) rfl (by kernel_rfl) (by kernel_rfl) (by kernel_rfl) (λ_ _ _ h=>h) (Or.inl ⟨by rfl,?_⟩) ?_;rotate_left
 ·(intro w;go_simp;try with_reducible rfl)
 refine qdj (rs:=[0,7]) (by kernel_rfl) (by simp) ?_;refine qce rfl (λK hK=>?_) ?_
 ·skip
  go_simp;refine hK _ _ ?_;clear hK K;refine qdj (rs:=[7]) (by kernel_rfl) (by simp) ?_;refine qce rfl (λK hK=>?_) ?_
  ·skip
   go_simp;refine hK _ _ ?_;clear hK K;refine qdb (i:=9) (v:=?_) rfl (by kernel_rfl) (by kernel_rfl) (by kernel_rfl) (λ_ _ _ h=>h) (Or.inl ⟨by rfl,?_⟩) ?_;rotate_left
   ·(intro w;go_simp;try with_reducible rfl)
   refine qdj (rs:=[10]) (by kernel_rfl) (by simp) ?_;refine qce rfl (λK hK=>?_) ?_
   ·skip
    go_simp;refine hK _ _ ?_;clear hK K;refine qdj (rs:=[11]) (by kernel_rfl) (by simp) ?_;refine qce rfl (λK hK=>?_) ?_
    ·skip
     go_simp;refine hK _ _ ?_;clear hK K;have b0:=(q34 v (.cells #[.int .i64 x] 3) none).cell c0 (by simp);refine qdj (rs:=[12]) (by kernel_rfl) (by simp) ?_;refine qce rfl (λK hK=>?_) ?_
     ·skip
      refine vk rfl (.tmp 29) (.tmp 34) rfl (nc:=nc) rfl rfl ((HN.out.kept ((qc v none).trans (q34 v.drew _ none)) (by simp)).mono (q5m _) ((qc v none).trans (q34 v.drew _ none)).size) (jf _ _ _ _) hl (λcap w' q1 q2 q3 q4=>?_);have Q2:=q1D q2;have Q3:=q1D q3;have Q4:=q1D q4;have d0:=q2.cell (((qc v none).trans (q34 v.drew (.cells #[.int .i64 x] 3) none)).cell c0 (by simp)) (by simp);clear q2 q3 q4;refine hK _ _ ?_;clear hK K;refine qdb (i:=17) (v:=?_) rfl (by kernel_rfl) (by kernel_rfl) (by kernel_rfl) (λ_ _ _ h=>h) (Or.inl ⟨by rfl,?_⟩) ?_;rotate_left
      ·(intro w;go_simp;try with_reducible rfl)
      refine wpAny_done (by kernel_rfl) ?_ _;obtain rfl:=HV.out;refine HE.out _ cap w' q1 ?_ (Q3.out.mono (qa8 _) (q5m _)) Q4.out;have g:=((qc (u.tp T) none).trans (q34 (u.tp T).drew (.cells #[.int .i64 x] 3) none)).trans Q2.out;exact⟨g.os,rfl,g.output,g.size,g.block⟩
     exact qd7
    exact qd7
   exact qd7
  exact qd7
 refine qce rfl (λK hK=>?_) ?_
 ·skip
  go_simp;refine hK _ _ ?_;clear hK K;refine qdb (i:=9) (v:=?_) rfl (by kernel_rfl) (by kernel_rfl) (by kernel_rfl) (λ_ _ _ h=>h) (Or.inl ⟨by rfl,?_⟩) ?_;rotate_left
  ·(intro w;go_simp;try with_reducible rfl)
  refine qdj (rs:=[0,10]) (by kernel_rfl) (by simp) ?_;refine qce rfl (λK hK=>?_) ?_
  ·skip
   go_simp;refine hK _ _ ?_;clear hK K;refine qdj (rs:=[10]) (by kernel_rfl) (by simp) ?_;refine qce rfl (λK hK=>?_) ?_
   ·skip
    go_simp;refine hK _ _ ?_;clear hK K;refine qdj (rs:=[11]) (by kernel_rfl) (by simp) ?_;refine qce rfl (λK hK=>?_) ?_
    ·skip
     go_simp;refine hK _ _ ?_;clear hK K;have b0:=(q34 v (.cells #[.int .i64 x] 3) none).cell c0 (by simp);refine qdj (rs:=[12]) (by kernel_rfl) (by simp) ?_;refine qce rfl (λK hK=>?_) ?_
     ·skip
      refine vk rfl (.tmp 29) (.tmp 34) rfl (nc:=nc) rfl rfl ((HN.out.kept ((qc v none).trans (q34 v.drew _ none)) (by simp)).mono (q5m _) ((qc v none).trans (q34 v.drew _ none)).size) (jf _ _ _ _) hl (λcap w' q1 q2 q3 q4=>?_);have Q2:=q1D q2;have Q3:=q1D q3;have Q4:=q1D q4;have d0:=q2.cell (((qc v none).trans (q34 v.drew (.cells #[.int .i64 x] 3) none)).cell c0 (by simp)) (by simp);clear q2 q3 q4;refine hK _ _ ?_;clear hK K;refine qdb (i:=17) (v:=?_) rfl (by kernel_rfl) (by kernel_rfl) (by kernel_rfl) (λ_ _ _ h=>h) (Or.inl ⟨by rfl,?_⟩) ?_;rotate_left
      ·(intro w;go_simp;try with_reducible rfl)
      refine wpAny_done (by kernel_rfl) ?_ _;obtain rfl:=HV.out;refine HE.out _ cap w' q1 ?_ (Q3.out.mono (qa8 _) (q5m _)) Q4.out;have g:=((qc (u.tp T) none).trans (q34 (u.tp T).drew (.cells #[.int .i64 x] 3) none)).trans Q2.out;exact⟨g.os,rfl,g.output,g.size,g.block⟩
     exact qd7
    exact qd7
   exact qd7
  refine qce rfl (λK hK=>?_) ?_
  ·skip
   go_simp;refine hK _ _ ?_;clear hK K;refine qdj (rs:=[0,11]) (by kernel_rfl) (by simp) ?_;refine qce rfl (λK hK=>?_) ?_
   ·skip
    go_simp;refine hK _ _ ?_;clear hK K;refine qdj (rs:=[11]) (by kernel_rfl) (by simp) ?_;refine qce rfl (λK hK=>?_) ?_
    ·skip
     go_simp;refine hK _ _ ?_;clear hK K;have b0:=(q34 v (.cells #[.int .i64 x] 3) none).cell c0 (by simp);refine qdj (rs:=[12]) (by kernel_rfl) (by simp) ?_;refine qce rfl (λK hK=>?_) ?_
     ·skip
      refine vk rfl (.tmp 29) (.tmp 34) rfl (nc:=nc) rfl rfl ((HN.out.kept ((qc v none).trans (q34 v.drew _ none)) (by simp)).mono (q5m _) ((qc v none).trans (q34 v.drew _ none)).size) (jf _ _ _ _) hl (λcap w' q1 q2 q3 q4=>?_);have Q2:=q1D q2;have Q3:=q1D q3;have Q4:=q1D q4;have d0:=q2.cell (((qc v none).trans (q34 v.drew (.cells #[.int .i64 x] 3) none)).cell c0 (by simp)) (by simp);clear q2 q3 q4;refine hK _ _ ?_;clear hK K;refine qdb (i:=17) (v:=?_) rfl (by kernel_rfl) (by kernel_rfl) (by kernel_rfl) (λ_ _ _ h=>h) (Or.inl ⟨by rfl,?_⟩) ?_;rotate_left
      ·(intro w;go_simp;try with_reducible rfl)
      refine wpAny_done (by kernel_rfl) ?_ _;obtain rfl:=HV.out;refine HE.out _ cap w' q1 ?_ (Q3.out.mono (qa8 _) (q5m _)) Q4.out;have g:=((qc (u.tp T) none).trans (q34 (u.tp T).drew (.cells #[.int .i64 x] 3) none)).trans Q2.out;exact⟨g.os,rfl,g.output,g.size,g.block⟩
     exact qd7
    exact qd7
   refine qce rfl (λK hK=>?_) ?_
   ·skip
    go_simp;refine hK _ _ ?_;clear hK K;have b0:=(q34 v (.cells #[.int .i64 x] 3) none).cell c0 (by simp);refine qdj (rs:=[0,12]) (by kernel_rfl) (by simp) ?_;refine qce rfl (λK hK=>?_) ?_
    ·skip
     go_simp;refine hK _ _ ?_;clear hK K;refine qdj (rs:=[12]) (by kernel_rfl) (by simp) ?_;refine qce rfl (λK hK=>?_) ?_
     ·skip
      refine vk rfl (.tmp 29) (.tmp 34) rfl (nc:=nc) rfl rfl ((HN.out.kept ((qc v none).trans (q34 v.drew _ none)) (by simp)).mono (q5m _) ((qc v none).trans (q34 v.drew _ none)).size) (jf _ _ _ _) hl (λcap w' q1 q2 q3 q4=>?_);have Q2:=q1D q2;have Q3:=q1D q3;have Q4:=q1D q4;have d0:=q2.cell (((qc v none).trans (q34 v.drew (.cells #[.int .i64 x] 3) none)).cell c0 (by simp)) (by simp);clear q2 q3 q4;refine hK _ _ ?_;clear hK K;refine qdb (i:=17) (v:=?_) rfl (by kernel_rfl) (by kernel_rfl) (by kernel_rfl) (λ_ _ _ h=>h) (Or.inl ⟨by rfl,?_⟩) ?_;rotate_left
      ·(intro w;go_simp;try with_reducible rfl)
      refine wpAny_done (by kernel_rfl) ?_ _;obtain rfl:=HV.out;refine HE.out _ cap w' q1 ?_ (Q3.out.mono (qa8 _) (q5m _)) Q4.out;have g:=((qc (u.tp T) none).trans (q34 (u.tp T).drew (.cells #[.int .i64 x] 3) none)).trans Q2.out;exact⟨g.os,rfl,g.output,g.size,g.block⟩
     exact qd7
    refine qce rfl (λK hK=>?_) ?_
    ·skip
     refine vk rfl (.tmp 29) (.tmp 34) rfl (nc:=nc) rfl rfl ((HN.out.kept ((qc v none).trans (q34 v.drew _ none)) (by simp)).mono (q5m _) ((qc v none).trans (q34 v.drew _ none)).size) (jf _ _ _ _) hl (λcap w' q1 q2 q3 q4=>?_);have Q2:=q1D q2;have Q3:=q1D q3;have Q4:=q1D q4;have d0:=q2.cell (((qc v none).trans (q34 v.drew (.cells #[.int .i64 x] 3) none)).cell c0 (by simp)) (by simp);clear q2 q3 q4;refine hK _ _ ?_;clear hK K;refine qdj (rs:=[0]) (by kernel_rfl) (by simp) ?_;refine qce rfl (λK hK=>?_) ?_
     ·skip
      go_simp;refine hK _ _ ?_;clear hK K;refine qdb (i:=17) (v:=?_) rfl (by kernel_rfl) (by kernel_rfl) (by kernel_rfl) (λ_ _ _ h=>h) (Or.inl ⟨by rfl,?_⟩) ?_;rotate_left
      ·(intro w;go_simp;try with_reducible rfl)
      refine wpAny_done (by kernel_rfl) ?_ _;obtain rfl:=HV.out;have e:((u.tp T).alloc (.cells #[.int .i64 x] 3)).drew.heap.size=(u.tp T).heap.size+1:=by simp
      have q3:=Q3.out;have q4:=Q4.out;rw[e] at q3 q4;refine HE.out _ cap w' q1 ?_ (q3.mono (qa8 _) (q5m _)) q4;have g:=((qc (u.tp T) none).trans (q34 (u.tp T).drew (.cells #[.int .i64 x] 3) none)).trans Q2.out;exact⟨g.os,rfl,g.output,g.size,g.block⟩
     exact qd7
    exact qd7
   exact qd7
  exact qd7
 exact qd7
end
end Go.Proofs.YtidgnkmjgioapaaGreat
end
section
namespace Go.Proofs.YtidgnkmjgioapaaGreat
open Go Go.RowKit Go.Co Go.Sim Go.Conc Go.ConcN
theorem vR{P:q8b}{a:Act}{w:q3g}{o:qbz}{fv:qaH}{f:qbe}{fn:Func}{args:Array qaH}{Z:Array q8u}{jp:Array q58}(hop:o.op=.call { callee:=.value fv,args,argTypes:=Z })
  (hv:a.eval fv=.func (.func f) #[] jp) (hf:P.funcs[f]?=some fn) (hname:(fn.name == "runtime.NumGoroutine")=false) (hb:fn.body.isNone=false):(execOp a.eval o).run P w=.ok (.enter f (args.map a.eval++jp)) w:=by
 have h1:¬ fn.name = "runtime.NumGoroutine" := by simpa using hname
 have h2:¬ fn.body=none:=by cases hx:fn.body<;>simp_all
 unfold execOp;simp[hop,resolve,Deferred.ofValue,invoke,callFunc,hf,h1,h2,hv]
def Out(w:q3g)(O:Nat)(o:List Int):Prop:=∃b n c,w.heap[O]?=some (.cells #[.slice b n c] 29 (0,0))/\qe 0 w.heap.size w (.slice b n c) o
noncomputable def yT(ps:List Par)(l c:List Int):Bool:=@decide (¬ ZT ps l c) (Classical.propDecidable _)
theorem q29{ps:List Par}{l c:List Int}{d:Bool}(h:d=true↔ZT ps l c):yT ps l c=!d:=by
 unfold yT;cases d
 ·simpa using λe=>Bool.false_ne_true (h.2 e)
 ·simpa using h.1 rfl
theorem Jv.kept{w w':q3g}{E Lv Gp O Y Lp:Nat}{lb:Option qb9}{lc:Nat}{ws:List Int}(h:Jv w E Lv Gp O Y Lp lb lc ws)(hg:w.grownBy w' (some O)){b:Option qb9}{n c:Nat}(hO:w.heap[O]?=some (.cells #[.slice b n c] 29 (0,0))):Jv w' E Lv Gp O Y Lp lb lc ws :=
 ⟨blk hg (λe=>kx h.en hO (by decide) (by cases e;rfl)) h.en,blk hg (λe=>h.neL (by cases e;rfl)) h.ls,(h.wsI.kept_ne hg hO).mono (q5m _) hg.size,blk hg (λe=>kx h.gr hO (by decide) (by cases e;rfl)) h.gr,h.neL⟩
theorem Jv.tp{w:q3g}{E Lv Gp O Y Lp:Nat}{lb:Option qb9}{lc:Nat}{ws:List Int}(h:Jv w E Lv Gp O Y Lp lb lc ws)(T:Nat->qc7->Nat):Jv (w.tp T) E Lv Gp O Y Lp lb lc ws:=⟨h.en,h.ls,h.wsI,h.gr,h.neL⟩
theorem gb{w u v:q3g}{r:Option Nat}(h:(w.tp u.tape).grownBy u r)(k:(u.tp v.tape).grownBy v r):(w.tp v.tape).grownBy v r :=
 ⟨k.os.trans h.os,rfl,k.output.trans h.output,q87 h.size k.size,λi hi hne=>(k.block i (q8m hi h.size) hne).trans (h.block i hi hne)⟩
theorem gbut{w u:q3g}(r:Option Nat)(h:(w.tp u.tape).grownBy u none):(w.tp u.tape).grownBy u r:=h.but r
theorem Out.kept{w u:q3g}{O:Nat}{o:List Int}(h:Out w O o)(hg:(w.tp u.tape).grownBy u none):Out u O o:=by
 obtain⟨b,n,c,h1,h2⟩:=h;exact⟨b,n,c,blk hg (by simp) h1,(qe.kept (w:=w.tp u.tape) h2 hg (by simp)).mono (q5m _) hg.size⟩
theorem xA.gr{w u:q3g}{O Y L:Nat}{yb:Option qb9}{ps:List Par}{yc:Nat}{lim:Int}{pb:Option qb9}{l:List Int}{pc:Nat}{o:List Int}(h:xA w O Y L yb ps yc lim pb l pc)(hg:(w.tp u.tape).grownBy u (some O))(ho:Out u O o):xA u O Y L yb ps yc lim pb l pc:=by
 obtain⟨b,n,c,h1,-⟩:=ho;exact(h.tp _).kept hg ⟨b,n,c,h1⟩
theorem Jv.gw{w u:q3g}{E Lv Gp O Y Lp:Nat}{lb:Option qb9}{lc:Nat}{ws o:List Int}(h:Jv w E Lv Gp O Y Lp lb lc ws)(hg:(w.tp u.tape).grownBy u (some O))(ho:Out w O o):Jv u E Lv Gp O Y Lp lb lc ws:=by
 obtain⟨b,n,c,h1,-⟩:=ho;exact(h.tp _).kept hg (b:=b) (n:=n) (c:=c) h1
theorem qe.gr{w u:q3g}{O:Nat}{v:q58}{l o:List Int}(h:qe 0 w.heap.size w v l)(hg:(w.tp u.tape).grownBy u (some O))(ho:Out w O o):qe 0 u.heap.size u v l:=by
 obtain⟨b,n,c,h1,-⟩:=ho;exact(qe.kept_ne (w:=w.tp u.tape) h hg h1).mono (q5m _) hg.size
def GrR(ps:List Par)(l ws:List Int)(O m:Nat)(now:List Int)(from_:Nat)(o0:List Int)(wq:q3g)(v:q58)(u:q3g):Prop :=
 ∃b o,j6 (yT ps l) (zI ws m now from_) o0=(b,o)/\v=.bool b/\(wq.tp u.tape).grownBy u (some O)/\Out u O o
theorem Zn(w:q3g)(r:Option Nat):(w.tp w.tape).grownBy w r:=⟨rfl,rfl,rfl,q5m _,λ_ _ _=>rfl⟩
section
variable[J:JunkSet]{f:qbe}{Post:q58->q3g->Prop}{W:q3g}
theorem el136(D:Two Tryp.prog q8v)(hok:JunkSet.okf 137)(g9:∀i,¬ JunkSet.jk i)(hin:Tryp.prog.inits.idxOf? f=none)(hfs:∃g,Tryp.prog.funcs[f]?=some g/\Tryz.prog.funcs[f]?=some g)
  {ps:List Par} {l ws:List Int} {yb pb lb:Option qb9} {yc pc lc E Lv Gp O Y Lp:Nat} {lim:Int} (g5:ws.length<=1000) (e5:∀c:List Int,(∀y∈c,y∈ws)->c.length<=ws.length->DbOk ps l c) :
  ∀(m:Nat) (now:List Int) (from_:Nat) (nb:Option qb9) (nc:Nat) (wq:q3g) (o0:List Int),m+now.length<=ws.length->(∀y∈now,y∈ws)->Jv wq E Lv Gp O Y Lp lb lc ws->xA wq O Y Lp yb ps yc lim pb l pc->Out wq O o0 ->
   qe 0 wq.heap.size wq (.slice nb now.length nc) now->qN wq (.slice nb now.length nc)->now.length<=nc->(now≠[]\/qbp nb now.length nc=.slice none 0 0)->from_<=1000 ->
   EC Tryp.prog q8v f Post W 136 #[.slice nb now.length nc,.int .i64 from_,.int .i64 m,.pointer (some ⟨E,0,none⟩),.pointer (some ⟨Lv,0,none⟩),.pointer (some ⟨Gp,0,none⟩)] wq (GrR ps l ws O m now from_ o0 wq):=by
 have hs:Tryp.prog.funcs[(q9v 136).fn]?=Tryz.prog.funcs[(q9v 136).fn]?:=zd 136 (by decide);intro m;induction m with
 | zero =>
  intro now from_ nb nc wq o0 e4 b7 hG hW hO hN e8 hnc hne h8;refine EC.of_body1 D (fn:=Tryz.f136) (c0:=Tryz.f136.body.getD .skip) (t:=9) Tryp.func136 Tryz.func136 (by kernel_rfl) rfl λcs hb b0=>?_;have HR:=q1D b0;clear b0;simp only[Tryz.f136,q88];walk_nrm;refine EL.seq D hb hs ?_;refine EL.piece D hb hs λT=>?_;go_wp2;refine EL.tape (wq:=wq) ?_ T;refine EL.seq D hb hs ?_;refine EL.seq D hb hs ?_;refine EL.piece D hb hs λT=>?_;go_wp2;refine EL.tape (wq:=wq) ?_ T;refine EL.cond D hb hs true (by rfl) ?_;simp only[if_true];refine EL.seq D hb hs ?_;refine EL.region D hb hs ?_;simp only[qa0,q8l,q9k,q9F,q9m,qa4,qb6];have h9:=qa (o:=0) hG.en rfl;refine EL.list D hb hs [0,1] [_,_] (rest:=[2,3]) rfl λT=>?_;have c1:(wq.tp T).cell? ⟨E,0,none⟩=some (.func (.func 83) #[] #[.pointer (some ⟨O,0,none⟩),.pointer (some ⟨Y,0,none⟩),.pointer (some ⟨Lp,0,none⟩)]):=h9;go_wp2;refine EL.tape (wq:=wq) ?_ T;refine EL.enter D hb hs (fk:=83) (args:=#[.slice nb now.length nc,.pointer (some ⟨O,0,none⟩),.pointer (some ⟨Y,0,none⟩),.pointer (some ⟨Lp,0,none⟩)]) rfl rfl (λT=>by rw[vR (f:=83) rfl rfl Tryp.func83 (by kernel_rfl) rfl];walk_nrm) (zd 83 (by decide)) ?_;refine el83 D hok g9 hin hfs hW hN e8 hne (e5 now b7 (by omega)) _ cs hb hs λv u hR=>?_;obtain⟨d,rfl,hd,hg,b,n,c,g8,g7⟩:=hR;rw[qcr];walk_nrm;refine EL.list D hb hs [3] [_] (rest:=[]) rfl λT=>?_;go_wp2;refine EL.tape (wq:=u) ?_ T;refine EL.region_end D hb hs ?_;refine EL.retS D hb hs ?_;refine HR.out _ _ u ⟨!d,now,?_,rfl,hg,b,n,c,g8,g7⟩;simp only[zI,j6,q29 hd];cases d<;>rfl
 | succ m ih =>
  intro now from_ nb nc wq o0 e4 b7 hG hW hO hN e8 hnc hne h8;refine EC.of_body1 D (fn:=Tryz.f136) (c0:=Tryz.f136.body.getD .skip) (t:=9) Tryp.func136 Tryz.func136 (by kernel_rfl) rfl λcs hb b0=>?_;have HR:=q1D b0;clear b0;have r6:((m:Int)+1 == 0)=false:=by
   rw[beq_eq_false_iff_ne];omega
  have key:∀(d:Nat) (i:Nat) (z:Array q58) (u:q3g) (o:List Int),d=ws.length - i->i<=1001->z.size=41->z[0]?=some (.slice nb now.length nc)->z[2]?=some (.int .i64 (m+1:Nat))->z[3]?=some (.pointer (some ⟨E,0,none⟩))->z[4]?=some (.pointer (some ⟨Lv,0,none⟩))->z[5]?=some (.pointer (some ⟨Gp,0,none⟩))->z[10]?=some (.int .i64 i) ->
    (wq.tp u.tape).grownBy u (some O)->Out u O o->j6 (yT ps l) (zI ws (m+1) now from_) o0=j6 (yT ps l) (zI ws (m+1) now i) o ->
    EL Tryp.prog q8v f Post W (G ((q9v 136).at ⟨z,[]⟩ (.code (sub [1,1,0,1,0,0] (Tryz.f136.body.getD .skip))::.inLoop (sub [1,1,0,1,0,0] (Tryz.f136.body.getD .skip))::.inBlock 0::.code (sub [1,1,1] (Tryz.f136.body.getD .skip))::[])) cs) u:=by
   intro d;induction d with
   | zero =>
    intro i z u o hd hi hz h0 h2 h3 h4 h5 c3 hg b9 c8;obtain⟨y0,y1,y2,y3,y4,y5,y6,y7,y8,y9,y10,y11,y12,y13,y14,y15,y16,y17,y18,y19,y20,y21,y22,y23,y24,y25,y26,y27,y28,y29,y30,y31,y32,y33,y34,y35,y36,y37,y38,y39,y40,rfl⟩:=lit41 z hz;clear hz;simp at h0 h2 h3 h4 h5 c3;subst h0 h2 h3 h4 h5 c3;have e9:=q1D c8;have d7:=qa (o:=0) (hG.gw hg hO).ls rfl;have hni:¬ (i:Int)<(ws.length:Int):=by omega
    have hge:ws.length<=i:=by omega
    clear hd;simp only[Tryz.f136,q88,sub];refine EL.seq D hb hs ?_;refine EL.seq D hb hs ?_;refine EL.piece D hb hs λT=>?_;have c1:(u.tp T).cell? ⟨Lv,0,none⟩=some (.slice lb ws.length lc):=d7;go_wp2;refine EL.tape (wq:=u) ?_ T;refine EL.cond D hb hs false (by rfl) ?_;simp only[if_false,qa5];refine EL.exit D hb hs rfl ?_;refine EL.seq D hb hs ?_;refine EL.piece D hb hs λT=>?_;go_wp2;refine EL.tape (wq:=u) ?_ T;refine EL.retS D hb hs ?_;refine HR.out _ _ u ⟨false,o,?_,rfl,hg,b9⟩;rw[c8,q0d (by omega)];rfl
   | succ d ihd =>
    intro i z u o hd hi hz h0 h2 h3 h4 h5 c3 hg b9 c8;obtain⟨y0,y1,y2,y3,y4,y5,y6,y7,y8,y9,y10,y11,y12,y13,y14,y15,y16,y17,y18,y19,y20,y21,y22,y23,y24,y25,y26,y27,y28,y29,y30,y31,y32,y33,y34,y35,y36,y37,y38,y39,y40,rfl⟩:=lit41 z hz;clear hz;simp at h0 h2 h3 h4 h5 c3;subst h0 h2 h3 h4 h5 c3;have e9:=q1D c8;have c9:=hG.gw hg hO;have d7:=qa (o:=0) c9.ls rfl;have b6:i<ws.length:=by omega
    have hni:(i:Int)<(ws.length:Int):=by omega
    have HD:=q1D hd;clear hd;have k5:=hN.gr hg hO;have H6:=λk (a1 a3 a6 a7 a8 a9 q5 q0 p9 p8 p7 p6 p5 p4 p3 n9 n8 n7 n6 n4 n3 n2 m9 m8 m7 m6 m5 m4 m3 l9 l8 l7 l6 l5 l4 k9:q58) LB lo' k7 x hx hend=>reg6 (f:=f) (Post:=Post) (W:=W) (cs:=cs) (k:=k) (y1:=a1) (y3:=a3) (y6:=a6) (y7:=a7) (y8:=a8) (y9:=a9) (y11:=q5) (y12:=q0) (y13:=p9) (y14:=p8) (y15:=p7) (y16:=p6) (y17:=p5) (y18:=p4) (y19:=p3) (y20:=n9) (y21:=n8) (y22:=n7) (y23:=n6) (y24:=n4) (y25:=n3) (y26:=n2) (y27:=m9) (y28:=m8) (y29:=m7) (y30:=m6) (y31:=m5) (y32:=m4) (y33:=m3) (y34:=l9) (y35:=l8) (y36:=l7) (y37:=l6) (y38:=l5) (y39:=l4) (y40:=k9) D hb (u:=u) (E:=E) (Lv:=Lv) (Gp:=Gp) (O:=O) (Y:=Y) (Lp:=Lp) (LB:=LB) (lo:=lo') (nb:=nb) (lc:=lc) (nc:=nc) (i:=i) (m:=m) (ws:=ws) (now:=now) (x:=x) k7 k5 hnc b6 hx (by omega) (by omega) g5 hend;simp only[Tryz.f136,q88,sub,q4C] at H6 ihd ⊢;have r4:=q1D H6;clear H6;have q7:=q1D ihd;clear ihd;refine EL.seq D hb hs ?_;refine EL.seq D hb hs ?_;refine EL.piece D hb hs λT=>?_;have c1:(u.tp T).cell? ⟨Lv,0,none⟩=some (.slice lb ws.length lc):=d7;go_wp2;refine EL.tape (wq:=u) ?_ T;refine EL.cond D hb hs true (by rfl) ?_;simp only[if_true];refine EL.skip D hb hs ?_;refine EL.seq D hb hs ?_;refine EL.block D hb hs ?_;refine EL.seq D hb hs ?_;obtain⟨b1,r7,he,-,hcell⟩:=c9.wsI.cell;cases he;obtain⟨LB,lo',rfl,-,-,-,k8⟩:=hcell (by intro e;rw[e] at b6;simp at b6);have hx:=k8 i b6;refine r4.out _ _ _ _ _ _ _ _ _ _ _ _ _ _ _ _ _ _ _ _ _ _ _ _ _ _ _ _ _ _ _ _ _ _ _ _ _ LB lo' c9 _ hx ?_;intro g cap u' q1 q2 q3 q4;generalize d9:ws[i]?.getD 0=x at hx q3 q4;have gU:(u.tp u'.tape).grownBy u' (some O):=gbut _ q2;have e7:=b9.kept q2;have k6:=c9.gw gU b9;have k0:=(hW.gr hg b9).gr gU e7;have d6:∀y∈now++[x],y∈ws:=by
     intro y hy;rcases qcz.1 hy with h | h
     ·exact b7 y h
     ·obtain rfl:=List.mem_singleton.1 h
      rw[<- d9,q7C b6];exact List.getElem_mem b6
    have Z:(now++[x]).length=now.length+1:=by simp
    have d8:=ih (now++[x]) (i+1) (some ⟨g,0,none⟩) cap u' o (by rw[Z];omega) d6 k6 k0 e7 (by rw[Z];exact q3) (by rw[Z];exact q4) (by rw[Z];exact q1) (.inl (by simp)) (by omega);rw[Z] at d8;have r3:=q1D d8;clear d8;refine EL.enter D hb hs (fk:=136) (args:=#[.slice (some ⟨g,0,none⟩) (now.length+1) cap,.int .i64 (i+1:Nat),.int .i64 m,.pointer (some ⟨E,0,none⟩),.pointer (some ⟨Lv,0,none⟩),.pointer (some ⟨Gp,0,none⟩)]) rfl rfl (λT=>by rw[vR (f:=136) rfl rfl Tryp.func136 (by kernel_rfl) rfl];walk_nrm) (zd 136 (by decide)) ?_;refine r3.out _ cs hb hs λv u2 hR=>?_;obtain⟨b,o2,g6,rfl,hg2,e6⟩:=hR;rw[qcr];walk_nrm;have b8:(wq.tp u2.tape).grownBy u2 (some O):=gb (gb hg gU) hg2;have d5:j6 (yT ps l) (zI ws (m+1) now from_) o0=if b=true then(b,o2) else j6 (yT ps l) (zI ws (m+1) now (i+1)) o2:=by
     rw[e9.out,QR b6,d9,Kx,g6]
    refine EL.region_end D hb hs ?_;cases b with
    | true =>
     refine EL.cond D hb hs true (by rfl) ?_;simp only[if_true];refine EL.seq D hb hs ?_;refine EL.piece D hb hs λT=>?_;go_wp2;refine EL.tape (wq:=u2) ?_ T;refine EL.retS D hb hs ?_;exact HR.out _ _ u2 ⟨true,o2,d5,rfl,b8,e6⟩
    | false =>
     refine EL.cond D hb hs false (by rfl) ?_;simp only[if_false,qa5];refine EL.skip D hb hs ?_;refine EL.inBlock D hb hs ?_;have r5:IntKind.i64.wrap ((i:Int)+1)=((i+1:Nat):Int):=by simp[qes];omega
     refine EL.piece D hb hs λT=>?_;go_wp2;refine EL.tape (wq:=u2) ?_ T;refine EL.inLoop D hb hs ?_;exact q7.out (i+1) _ u2 o2 (by have:=HD.out;omega) (by omega) (by rfl) (by rfl) (by rfl) (by rfl) (by rfl) (by rfl) (by rfl) b8 e6 d5
  simp only[Tryz.f136,q88,sub] at key ⊢;have q6:=q1D key;clear key;walk_nrm;refine EL.seq D hb hs ?_;refine EL.piece D hb hs λT=>?_;go_wp2;refine EL.tape (wq:=wq) ?_ T;refine EL.seq D hb hs ?_;refine EL.seq D hb hs ?_;refine EL.piece D hb hs λT=>?_;go_wp2;refine EL.tape (wq:=wq) ?_ T;refine EL.cond D hb hs false (by rfl) ?_;simp only[if_false,qa5];refine EL.skip D hb hs ?_;refine EL.seq D hb hs ?_;refine EL.seq D hb hs ?_;refine EL.piece D hb hs λT=>?_;go_wp2;refine EL.tape (wq:=wq) ?_ T;refine EL.block D hb hs ?_;refine EL.loop D hb hs ?_;exact q6.out (ws.length - from_) from_ _ wq o0 rfl (by omega) (by rfl) (by rfl) (by rfl) (by rfl) (by rfl) (by rfl) (by rfl) (Zn _ _) hO rfl
end
end Go.Proofs.YtidgnkmjgioapaaGreat
end
section
namespace Go.Proofs.YtidgnkmjgioapaaGreat
open Go Go.RowKit Go.Co Go.Sim Go.Conc Go.ConcN
theorem lit21(x:Array q58)(h:x.size=21):∃y0 y1 y2 y3 y4 y5 y6 y7 y8 y9 y10 y11 y12 y13 y14 y15 y16 y17 y18 y19 y20,x=#[y0,y1,y2,y3,y4,y5,y6,y7,y8,y9,y10,y11,y12,y13,y14,y15,y16,y17,y18,y19,y20]:=by
 have e:=Ql x;rw[h] at e;exact⟨_,_,_,_,_,_,_,_,_,_,_,_,_,_,_,_,_,_,_,_,_,e.trans rfl⟩
theorem tpg{w u:q3g}{T:Nat->qc7->Nat}{r:Option Nat}(h:(w.tp T).grownBy u r):(w.tp u.tape).grownBy u r:=⟨h.os,rfl,h.output,h.size,h.block⟩
theorem gnew{w u v:q3g}{O:Nat}(h:(w.tp u.tape).grownBy u none)(k:(u.tp v.tape).grownBy v (some O))(hO:w.heap.size<=O):(w.tp v.tape).grownBy v none :=
 ⟨k.os.trans h.os,rfl,k.output.trans h.output,q87 h.size k.size,λi hi _=>(k.block i (q8m hi h.size) (by intro e;cases e;exact absurd hi (by show ¬ O<w.heap.size;omega))).trans (h.block i hi (by simp))⟩
theorem xA.knone{w u:q3g}{O Y L:Nat}{yb:Option qb9}{ps:List Par}{yc:Nat}{lim:Int}{pb:Option qb9}{l:List Int}{pc:Nat}(h:xA w O Y L yb ps yc lim pb l pc)(hg:(w.tp u.tape).grownBy u none):xA u O Y L yb ps yc lim pb l pc:=by
 obtain⟨b,n,c,h1⟩:=h.out;exact(h.tp _).kept (hg.but _) ⟨b,n,c,blk hg (by simp) h1⟩
theorem qe.knone{w u:q3g}{v:q58}{l:List Int}(h:qe 0 w.heap.size w v l)(hg:(w.tp u.tape).grownBy u none):qe 0 u.heap.size u v l:=(qe.kept (w:=w.tp u.tape) h hg (by simp)).mono (q5m _) hg.size
section
variable[J:JunkSet]{f:qbe}{Post:q58->q3g->Prop}{W:q3g}
theorem el82(D:Two Tryp.prog q8v)(hok:JunkSet.okf 137)(l7:∀i,¬ JunkSet.jk i)(hin:Tryp.prog.inits.idxOf? f=none)(hfs:∃g,Tryp.prog.funcs[f]?=some g/\Tryz.prog.funcs[f]?=some g)
  {ps:List Par} {l ws o0:List Int} {yb pb:Option qb9} {yc pc O Y Lp:Nat} {lim:Int} (l5:ws.length<=1000) (h8:∀c:List Int,(∀y∈c,y∈ws)->c.length<=ws.length->DbOk ps l c) (hS:Zv l ws)
  {wq:q3g} (hW:xA wq O Y Lp yb ps yc lim pb l pc) (hO:Out wq O o0) :
  EC Tryp.prog q8v f Post W 82 #[.slice pb l.length pc,.func (.func 83) #[] #[.pointer (some ⟨O,0,none⟩),.pointer (some ⟨Y,0,none⟩),.pointer (some ⟨Lp,0,none⟩)]] wq
   λv u=>∃b o,j6 (yT ps l) (zN ws 0) o0=(b,o)/\v=.bool b/\(wq.tp u.tape).grownBy u (some O)/\Out u O o:=by
 have hs:Tryp.prog.funcs[(q9v 82).fn]?=Tryz.prog.funcs[(q9v 82).fn]?:=zd 82 (by decide);refine EC.of_body1 D (fn:=Tryz.f82) (c0:=Tryz.f82.body.getD .skip) (t:=4) Tryp.func82 Tryz.func82 (by kernel_rfl) rfl λcs hb d7=>?_;have HR:=q1D d7;clear d7;have m7:O<wq.heap.size:=by obtain⟨b,n,c,h1⟩:=hW.out;exact(q45.1 h1).1
 simp only[Tryz.f82,q88];walk_nrm;refine EL.seq D hb hs ?_;refine EL.piece D hb hs λT=>?_;go_wp2;obtain⟨Lv,b0⟩:∃Lv,Lv=(wq.tp T).heap.size:=⟨_,rfl⟩
 rw[<- b0];have g1:(wq.tp T).grownBy (((wq.tp T).alloc (.cells #[.slice pb l.length pc] 29)).alloc (.cells #[.func (.func 83) #[] #[.pointer (some ⟨O,0,none⟩),.pointer (some ⟨Y,0,none⟩),.pointer (some ⟨Lp,0,none⟩)]] 51)) none:=(q34 _ _ none).trans (q34 _ _ none);have l1:(((wq.tp T).alloc (.cells #[.slice pb l.length pc] 29)).alloc (.cells #[.func (.func 83) #[] #[.pointer (some ⟨O,0,none⟩),.pointer (some ⟨Y,0,none⟩),.pointer (some ⟨Lp,0,none⟩)]] 51)).heap[Lv]?=some (.cells #[.slice pb l.length pc] 29 (0,0)):=by rw[b0];exact qp (q7j (wq.tp T) _)
 have e1:(((wq.tp T).alloc (.cells #[.slice pb l.length pc] 29)).alloc (.cells #[.func (.func 83) #[] #[.pointer (some ⟨O,0,none⟩),.pointer (some ⟨Y,0,none⟩),.pointer (some ⟨Lp,0,none⟩)]] 51)).heap[Lv+1]?=some (.cells #[.func (.func 83) #[] #[.pointer (some ⟨O,0,none⟩),.pointer (some ⟨Y,0,none⟩),.pointer (some ⟨Lp,0,none⟩)]] 51 (0,0)):=by
  have:=q7j ((wq.tp T).alloc (.cells #[.slice pb l.length pc] 29)) (.cells #[.func (.func 83) #[] #[.pointer (some ⟨O,0,none⟩),.pointer (some ⟨Y,0,none⟩),.pointer (some ⟨Lp,0,none⟩)]] 51);rw[q8f] at this;rw[b0];exact this
 generalize ((wq.tp T).alloc (.cells #[.slice pb l.length pc] 29)).alloc (.cells #[.func (.func 83) #[] #[.pointer (some ⟨O,0,none⟩),.pointer (some ⟨Y,0,none⟩),.pointer (some ⟨Lp,0,none⟩)]] 51)=u1 at g1 l1 e1 ⊢;have hg1:=tpg g1;have k0:=hW.ints.knone hg1;clear g1;have g6:=q1D (show Lv=wq.heap.size from b0);show EL _ _ _ _ _ _ _;clear b0;refine EL.seq D hb hs ?_;refine EL.piece D hb hs λT=>?_;have c1:(u1.tp T).cell? ⟨Lv,0,none⟩=some (.slice pb l.length pc):=qa l1 rfl;have g7:=q1D l1;have k9:=q1D e1;have k8:=q1D hg1;have g8:=q1D (show qe 0 (u1.tp T).heap.size (u1.tp T) (.slice pb l.length pc) l from k0);have b6:Lv<(u1.tp T).heap.size:=(q45.1 l1).1;clear l1 e1 hg1 k0;obtain⟨a6,a7⟩:∃a6,a6=u1.tp T:=⟨_,rfl⟩
 rw[<- a7] at g8 c1 b6 ⊢;have HU:=q1D a7;clear a7;have g9:a6.frozen? ⟨Lv,0,none⟩=false:=by rw[HU.out];exact qn g7.out
 go_wp2_with (first
  | (go_at_call 135;refine(QF _ _ _ _).mono ?_;rintro e w2 ⟨rfl,rfl⟩)
  | (go_at_call 134;refine(hS a6.heap.size (.slice pb l.length pc) _ (by simp) (by rw[jf];rfl) ((g8.out.alloc _).mono (q5m _) (by simp))).mono ?_;rintro e w2 ⟨v,rfl,e7,d8,hg2⟩;obtain⟨lb,lc,rfl,-,-⟩:=e7.cell;have c2:=(((q34 a6 (.cells #[.slice pb l.length pc] 29) none).trans hg2).cell c1 (by simp));have z2:=(((q34 a6 (.cells #[.slice pb l.length pc] 29) none).trans hg2).frozen_far _ b6 (by simp)).trans g9;have k6:=q1D e7;have d5:=q1D ((q34 a6 (.cells #[.slice pb l.length pc] 29) none).trans hg2);have m6:=q1D d8;clear e7 d8 hg2))
 have Z:=qg w2 Lv 0 (.slice lb ws.length lc);have e6:w2.heap[Lv]?=some (.cells #[.slice pb l.length pc] 29 (0,0)):=blk d5.out (by simp) (by rw[HU.out];exact g7.out);have l2:(w2.setCell ⟨Lv,0,none⟩ (.slice lb ws.length lc)).heap[Lv]?=some (.cells #[.slice lb ws.length lc] 29 (0,0)):=by rw[qh e6];rfl
 have m3:=blk (X:=Lv+1) d5.out (by simp) (by rw[HU.out];exact k9.out);have e2:=blk Z (by simp) m3;have i2:=(k6.out.kept Z (λR e=>by cases e;left;rw[q8f];omega)).mono (qa8 _) Z.size;have e9:(wq.tp (w2.setCell ⟨Lv,0,none⟩ (.slice lb ws.length lc)).tape).grownBy (w2.setCell ⟨Lv,0,none⟩ (.slice lb ws.length lc)) none:=by
  have a:=d5.out;rw[HU.out] at a;exact gnew k8.out (tpg ((a.but (some Lv)).trans Z)) (by rw[g6.out];exact q5m _)
 show EL _ _ _ _ _ _ _;generalize w2.setCell ⟨Lv,0,none⟩ (.slice lb ws.length lc)=u2 at Z l2 e2 i2 e9 ⊢;clear e6 k6 d5 m6 c2 z2 Z g9 HU g8 c1 b6 k8 k9 g7;refine EL.seq D hb hs ?_;refine EL.piece D hb hs λT=>?_;go_wp2;obtain⟨Gp,c9⟩:∃Gp,Gp=(u2.tp T).heap.size:=⟨_,rfl⟩
 rw[<- c9];have g3:(u2.tp T).grownBy ((u2.tp T).alloc (.cells #[.nilFunc] 151)) none:=q34 _ _ none;have p3:((u2.tp T).alloc (.cells #[.nilFunc] 151)).heap[Gp]?=some (.cells #[.nilFunc] 151 (0,0)):=by rw[c9];exact q7j (u2.tp T) _
 have l3:=blk g3 (by simp) (show(u2.tp T).heap[Lv]?=_ from l2);have e3:=blk g3 (by simp) (show(u2.tp T).heap[Lv+1]?=_ from e2);have e8:=gb e9 (tpg g3);have i3:=i2.knone (tpg g3);have n2:Lv<Gp:=by rw[c9];exact(q45.1 l2).1
 show EL _ _ _ _ _ _ _;generalize (u2.tp T).alloc (.cells #[.nilFunc] 151)=u3 at g3 p3 l3 e3 e8 i3 ⊢;clear g3 l2 e2 i2 c9 e9;refine EL.seq D hb hs ?_;refine EL.piece D hb hs λT=>?_;have c3:(u3.tp T).cell? ⟨Gp,0,none⟩=some .nilFunc:=qa p3 rfl;have z3:(u3.tp T).frozen? ⟨Gp,0,none⟩=false:=qn p3;have m9:∀(a:qb9) (fn:Fn) (x y:Array q58) (m:Mode) (w:q3g),(store a (.func fn x y) m).run Tryp.prog w=stored Tryp.prog w a (.func fn x y) m:=λa fn x y m w=>run_store _ w a _ m rfl;go_wp2;have Z:=qg (u3.tp T) Gp 0 (.func (.func 136) #[] #[.pointer (some ⟨Lv+1,0,none⟩),.pointer (some ⟨Lv,0,none⟩),.pointer (some ⟨Gp,0,none⟩)]);have p4:((u3.tp T).setCell ⟨Gp,0,none⟩ (.func (.func 136) #[] #[.pointer (some ⟨Lv+1,0,none⟩),.pointer (some ⟨Lv,0,none⟩),.pointer (some ⟨Gp,0,none⟩)])).heap[Gp]?=some (.cells #[.func (.func 136) #[] #[.pointer (some ⟨Lv+1,0,none⟩),.pointer (some ⟨Lv,0,none⟩),.pointer (some ⟨Gp,0,none⟩)]] 151 (0,0)):=by
  rw[qh (show(u3.tp T).heap[Gp]?=_ from p3)];rfl
 have l4:=blk Z (by simp;omega) (show(u3.tp T).heap[Lv]?=_ from l3);have e4:=blk Z (λe=>kx (show(u3.tp T).heap[Lv+1]?=_ from e3) (show(u3.tp T).heap[Gp]?=_ from p3) (by decide) (by cases e;rfl)) (show(u3.tp T).heap[Lv+1]?=_ from e3);have i4:qe 0 ((u3.tp T).setCell ⟨Gp,0,none⟩ (.func (.func 136) #[] #[.pointer (some ⟨Lv+1,0,none⟩),.pointer (some ⟨Lv,0,none⟩),.pointer (some ⟨Gp,0,none⟩)])).heap.size ((u3.tp T).setCell ⟨Gp,0,none⟩ (.func (.func 136) #[] #[.pointer (some ⟨Lv+1,0,none⟩),.pointer (some ⟨Lv,0,none⟩),.pointer (some ⟨Gp,0,none⟩)])) (.slice lb ws.length lc) ws:=by
  obtain⟨base,cap,e,hl,hr⟩:=i3;refine⟨base,cap,e,hl,λhne=>?_⟩;obtain⟨B,o,cs,fr,e1,e2,e3,e4,e5⟩:=hr hne;exact⟨B,o,cs,fr,e1,e2,q8m e3 Z.size,blk Z (λe=>kx (show(u3.tp T).heap[B]?=_ from e4) (show(u3.tp T).heap[Gp]?=_ from p3) (by decide) (by cases e;rfl)) e4,e5⟩
 have b9:=gnew e8 (tpg Z) (by have:=g6.out;omega);show EL _ _ _ _ _ _ _;generalize (u3.tp T).setCell ⟨Gp,0,none⟩ (.func (.func 136) #[] #[.pointer (some ⟨Lv+1,0,none⟩),.pointer (some ⟨Lv,0,none⟩),.pointer (some ⟨Gp,0,none⟩)])=u4 at Z p4 l4 e4 i4 b9 ⊢;clear Z c3 z3 p3 l3 e3 e8 i3;have hG:Jv u4 (Lv+1) Lv Gp O Y Lp lb lc ws:=⟨e4,l4,i4,p4,by have:=g6.out;omega⟩
 have l9:=hW.knone b9;have h9:=hO.kept b9;have k7:=q1D b9;clear e4 i4 p4 b9;have key:∀(d:Nat) (k:Nat) (z:Array q58) (u:q3g) (o:List Int),d=ws.length+1 - k->k<=ws.length+1->z.size=21->z[5]?=some (.pointer (some ⟨Gp,0,none⟩))->z[13]?=some (.int .i64 (ws.length+1:Nat))->z[14]?=some (.int .i64 k) ->
   (u4.tp u.tape).grownBy u (some O)->Out u O o->j6 (yT ps l) (zN ws 0) o0=j6 (yT ps l) (zN ws k) o ->
   EL Tryp.prog q8v f Post W (G ((q9v 82).at ⟨z,[]⟩ (.code (sub [1,1,1,1,0,1,0,0] (Tryz.f82.body.getD .skip))::.inLoop (sub [1,1,1,1,0,1,0,0] (Tryz.f82.body.getD .skip))::.inBlock 0::.code (sub [1,1,1,1,1] (Tryz.f82.body.getD .skip))::[])) cs) u:=by
  intro d;induction d with
  | zero =>
   intro k z u o hd hk hz h5 b8 b7 hg c8 a8;obtain⟨y0,y1,y2,y3,y4,y5,y6,y7,y8,y9,y10,y11,y12,y13,y14,y15,y16,y17,y18,y19,y20,rfl⟩:=lit21 z hz;clear hz;simp at h5 b8 b7;subst h5 b8 b7;have g5:=q1D a8;have hni:¬ (k:Int)<(ws.length:Int)+1:=by omega
   have hge:ws.length+1<=k:=by omega
   clear hd a8;simp only[Tryz.f82,q88,sub];refine EL.seq D hb hs ?_;refine EL.piece D hb hs λT=>?_;go_wp2;refine EL.tape (wq:=u) ?_ T;refine EL.seq D hb hs ?_;refine EL.cond D hb hs false (by rfl) ?_;simp only[if_false,qa5];refine EL.exit D hb hs rfl ?_;refine EL.seq D hb hs ?_;refine EL.piece D hb hs λT=>?_;go_wp2;refine EL.tape (wq:=u) ?_ T;refine EL.retS D hb hs ?_;refine HR.out _ _ u ⟨false,o,?_,rfl,gb (gbut _ k7.out) hg,c8⟩;rw[g5.out,q2b hge];rfl
  | succ d ihd =>
   intro k z u o hd hk hz h5 b8 b7 hg c8 a8;obtain⟨y0,y1,y2,y3,y4,y5,y6,y7,y8,y9,y10,y11,y12,y13,y14,y15,y16,y17,y18,y19,y20,rfl⟩:=lit21 z hz;clear hz;simp at h5 b8 b7;subst h5 b8 b7;have g5:=q1D a8;have hni:(k:Int)<(ws.length:Int)+1:=by omega
   have hlt:k<ws.length+1:=by omega
   have HD:=q1D hd;clear hd a8;have k5:=hG.gw hg h9;have l8:=l9.gr hg c8;simp only[Tryz.f82,q88,sub] at ihd ⊢;have m5:=q1D ihd;clear ihd;refine EL.seq D hb hs ?_;refine EL.piece D hb hs λT=>?_;go_wp2;refine EL.tape (wq:=u) ?_ T;refine EL.seq D hb hs ?_;refine EL.cond D hb hs true (by rfl) ?_;simp only[if_true];refine EL.skip D hb hs ?_;refine EL.seq D hb hs ?_;refine EL.block D hb hs ?_;refine EL.seq D hb hs ?_;refine EL.piece D hb hs λT=>?_;go_wp2;refine EL.tape (wq:=u) ?_ T;refine EL.seq D hb hs ?_;refine EL.region D hb hs ?_;simp only[qa0,q8l,q9k,q9F,q9m,qa4,qb6];refine EL.list D hb hs [0,1] [_,_] (rest:=[2]) rfl λT=>?_;have c1:(u.tp T).cell? ⟨Gp,0,none⟩=some (.func (.func 136) #[] #[.pointer (some ⟨Lv+1,0,none⟩),.pointer (some ⟨Lv,0,none⟩),.pointer (some ⟨Gp,0,none⟩)]):=qa k5.gr rfl;go_wp2;refine EL.tape (wq:=u) ?_ T;refine EL.enter D hb hs (fk:=136) (args:=#[.slice none ([]:List Int).length 0,.int .i64 (0:Nat),.int .i64 k,.pointer (some ⟨Lv+1,0,none⟩),.pointer (some ⟨Lv,0,none⟩),.pointer (some ⟨Gp,0,none⟩)]) rfl rfl (λT=>by rw[vR (f:=136) rfl rfl Tryp.func136 (by kernel_rfl) rfl];walk_nrm;rfl) (zd 136 (by decide)) ?_;refine el136 D hok l7 hin hfs l5 h8 k [] 0 none 0 u o (by simp;omega) (by simp) k5 l8 c8 (qe.nil _ _ _) (λad n c e=>by cases e) (q5m _) (.inr rfl) (by omega) _ cs hb hs λv u2 hR=>?_;obtain⟨b,o2,l6,rfl,hg2,d9⟩:=hR;rw[qcr];walk_nrm;have a9:(u4.tp u2.tape).grownBy u2 (some O):=gb hg hg2;have d6:j6 (yT ps l) (zN ws 0) o0=if b=true then(b,o2) else j6 (yT ps l) (zN ws (k+1)) o2:=by
    rw[g5.out,ZF hlt,Kx,l6]
   refine EL.region_end D hb hs ?_;cases b with
   | true =>
    refine EL.cond D hb hs true (by rfl) ?_;simp only[if_true];refine EL.seq D hb hs ?_;refine EL.piece D hb hs λT=>?_;go_wp2;refine EL.tape (wq:=u2) ?_ T;refine EL.retS D hb hs ?_;exact HR.out _ _ u2 ⟨true,o2,d6,rfl,gb (gbut _ k7.out) a9,d9⟩
   | false =>
    refine EL.cond D hb hs false (by rfl) ?_;simp only[if_false,qa5];refine EL.skip D hb hs ?_;refine EL.inBlock D hb hs ?_;have m8:IntKind.i64.wrap ((k:Int)+1)=((k+1:Nat):Int):=by simp[qes];omega
    refine EL.piece D hb hs λT=>?_;go_wp2;refine EL.tape (wq:=u2) ?_ T;refine EL.inLoop D hb hs ?_;exact m5.out (k+1) _ u2 o2 (by have:=HD.out;omega) (by omega) (by rfl) (by rfl) (by rfl) (by rfl) a9 d9 d6
 simp only[Tryz.f82,q88,sub] at key;have m4:=q1D key;clear key;have hwl:IntKind.i64.wrap ((ws.length:Int)+1)=((ws.length+1:Nat):Int):=by simp[qes];omega
 refine EL.seq D hb hs ?_;refine EL.seq D hb hs ?_;refine EL.piece D hb hs λT=>?_;have c4:(u4.tp T).cell? ⟨Lv,0,none⟩=some (.slice lb ws.length lc):=qa l4 rfl;go_wp2;refine EL.tape (wq:=u4) ?_ T;refine EL.block D hb hs ?_;refine EL.loop D hb hs ?_;exact m4.out (ws.length+1) 0 _ u4 o0 rfl (by omega) (by rfl) (by rfl) (by rfl) (by rfl) (Zn _ _) h9 rfl
end
end Go.Proofs.YtidgnkmjgioapaaGreat
end
section
namespace Go.Proofs.YtidgnkmjgioapaaGreat
open Go Go.RowKit Go.Co Go.Sim Go.Conc Go.ConcN
theorem qr.knone{w u:q3g}{v:q58}{l:List Par}(h:qr 0 w.heap.size w v l)(hg:(w.tp u.tape).grownBy u none):qr 0 u.heap.size u v l:=(qr.kept (w:=w.tp u.tape) h hg (by simp)).mono (q5m _) hg.size
theorem qN.knone{w u:q3g}{v:q58}(h:qN w v)(hg:(w.tp u.tape).grownBy u none):qN u v:=λad n c e=>by
 obtain⟨cs,e1,f,h1,h2⟩:=h ad n c e;exact⟨cs,e1,f,blk hg (by simp) h1,h2⟩
section
variable[J:JunkSet]{f:qbe}{Post:q58->q3g->Prop}{W:q3g}
theorem EC.of_body2(D:Two Tryp.prog q8v){fk:qbe}{fn:Func}{c0:qcm}{args:Array q58}{wq:q3g}{R:q58->q3g->Prop}{t t':Nat}(hf:Tryp.prog.funcs[fk]?=some fn)(hp:Tryz.prog.funcs[fk]?=some fn)(a6:fn.body=some c0)(hr:fn.results=#[.tmp t,.tmp t'])
  (h:∀cs,Bot f cs->(∀tm todo u,R (.tuple #[tm.getD t q5s,tm.getD t' q5s]) u->EL Tryp.prog q8v f Post W (G { (q9v fk).at ⟨tm,[]⟩ todo with mode:=.returning } cs) u) ->
   EL Tryp.prog q8v f Post W (G ((q9v fk).at ⟨args++qb4 (fn.ntmps - args.size) q5s,[]⟩ [.code c0]) cs) wq):EC Tryp.prog q8v f Post W fk args wq R :=
 EC.of_body D hf hp a6 λcs hb Z=>h cs hb λtm todo u hR=>Z ⟨tm,[]⟩ todo u _ rfl (λT=>results_tmp2 hr _ _ _) hR
theorem el29(D:Two Tryp.prog q8v)(hok:JunkSet.okf 137)(c9:∀i,¬ JunkSet.jk i)(hin:Tryp.prog.inits.idxOf? f=none)(hfs:∃g,Tryp.prog.funcs[f]?=some g/\Tryz.prog.funcs[f]?=some g)
  {ps:List Par} {l ws:List Int} {yb pb:Option qb9} {yc pc:Nat} {lim:Int} (b9:ws.length<=1000) (b0:∀c:List Int,(∀y∈c,y∈ws)->c.length<=ws.length->DbOk ps l c) (hS:Zv l ws) (hY:YOk ps lim) (hP:POk ps lim l)
  {wq:q3g} (pars:qr 0 wq.heap.size wq (.slice yb ps.length yc) ps) (yi:qN wq (.slice yb ps.length yc)) (ints:qe 0 wq.heap.size wq (.slice pb l.length pc) l) (pi:qN wq (.slice pb l.length pc)) (h0:qU wq 0) :
  EC Tryp.prog q8v f Post W 29 #[.agg #[.slice yb ps.length yc,.int .i64 lim],.slice pb l.length pc] wq
   λv u=>∃o s,v=.tuple #[s,.int .i64 0]/\(∃b,j6 (yT ps l) (zN ws 0) []=(b,o))/\(wq.tp u.tape).grownBy u none/\qe 0 u.heap.size u s o:=by
 have hs:Tryp.prog.funcs[(q9v 29).fn]?=Tryz.prog.funcs[(q9v 29).fn]?:=zd 29 (by decide);refine EC.of_body2 D (fn:=Tryz.f29) (c0:=Tryz.f29.body.getD .skip) (t:=4) (t':=5) Tryp.func29 Tryz.func29 (by kernel_rfl) rfl λcs hb a7=>?_;have HR:=q1D a7;clear a7;simp only[Tryz.f29,q88];walk_nrm;refine EL.seq D hb hs ?_;refine EL.piece D hb hs λT=>?_;go_wp2;obtain⟨X,hX⟩:∃X,X=(wq.tp T).heap.size:=⟨_,rfl⟩
 rw[<- hX];have g1:(wq.tp T).grownBy (((wq.tp T).alloc (.cells #[.slice yb ps.length yc,.int .i64 lim] 24)).alloc (.cells #[.slice pb l.length pc] 29)) none:=(q34 _ _ none).trans (q34 _ _ none);have x1:(((wq.tp T).alloc (.cells #[.slice yb ps.length yc,.int .i64 lim] 24)).alloc (.cells #[.slice pb l.length pc] 29)).heap[X]?=some (.cells #[.slice yb ps.length yc,.int .i64 lim] 24 (0,0)):=by rw[hX];exact qp (q7j (wq.tp T) _)
 have p1:(((wq.tp T).alloc (.cells #[.slice yb ps.length yc,.int .i64 lim] 24)).alloc (.cells #[.slice pb l.length pc] 29)).heap[X+1]?=some (.cells #[.slice pb l.length pc] 29 (0,0)):=by
  have:=q7j ((wq.tp T).alloc (.cells #[.slice yb ps.length yc,.int .i64 lim] 24)) (.cells #[.slice pb l.length pc] 29);rw[q8f] at this;rw[hX];exact this
 show EL _ _ _ _ _ _ _;generalize ((wq.tp T).alloc (.cells #[.slice yb ps.length yc,.int .i64 lim] 24)).alloc (.cells #[.slice pb l.length pc] 29)=u1 at g1 x1 p1 ⊢;have hg1:=tpg g1;clear g1;have HX:=q1D (show X=wq.heap.size from hX);clear hX;refine EL.seq D hb hs ?_;refine EL.piece D hb hs λT=>?_;have c1:(u1.tp T).cell? ⟨X,0,none⟩=some (.slice yb ps.length yc):=qa x1 rfl;have c2:(u1.tp T).cell? ⟨X,1,none⟩=some (.int .i64 lim):=qa x1 rfl;have c3:(u1.tp T).cell? ⟨X+1,0,none⟩=some (.slice pb l.length pc):=qa p1 rfl;have b6:=q1D (show qr 0 (u1.tp T).heap.size (u1.tp T) (.slice yb ps.length yc) ps from(show qr 0 u1.heap.size u1 (.slice yb ps.length yc) ps from pars.knone hg1));have b7:=q1D (show qe 0 (u1.tp T).heap.size (u1.tp T) (.slice pb l.length pc) l from(show qe 0 u1.heap.size u1 (.slice pb l.length pc) l from ints.knone hg1));go_wp2_with (first
  | (go_at_call 81;refine(vT 0 _ _ _ ps lim l _ b6.out b7.out (q5m _) hY hP).mono ?_;rintro e w2 ⟨rfl,hg2⟩;have b8:=q1D hg2;clear hg2))
 obtain⟨Y,a8⟩:∃Y,Y=w2.heap.size:=⟨_,rfl⟩
 rw[<- a8];have ga:(u1.tp T).grownBy (w2.alloc (.cells #[.slice yb ps.length yc,.int .i64 lim] 91)) none:=b8.out.trans (q34 _ _ none);have a9:=gb hg1 (tpg ga);have y2:(w2.alloc (.cells #[.slice yb ps.length yc,.int .i64 lim] 91)).heap[Y]?=some (.cells #[.slice yb ps.length yc,.int .i64 lim] 91 (0,0)):=by rw[a8];exact q7j _ _
 have p2:=blk ga (by simp) (show(u1.tp T).heap[X+1]?=_ from p1);show EL _ _ _ _ _ _ _;generalize w2.alloc (.cells #[.slice yb ps.length yc,.int .i64 lim] 91)=u2 at ga a9 y2 p2 ⊢;clear ga a8 b8 c1 c2 c3 b6 b7 x1 p1 hg1;refine EL.seq D hb hs ?_;refine EL.seq D hb hs ?_;refine EL.piece D hb hs λT=>?_;go_wp2;refine EL.tape (wq:=u2) ?_ T;refine EL.cond D hb hs false (by rfl) ?_;simp only[if_false,qa5];refine EL.skip D hb hs ?_;refine EL.seq D hb hs ?_;refine EL.piece D hb hs λT=>?_;go_wp2;obtain⟨O,a6⟩:∃O,O=(u2.tp T).heap.size:=⟨_,rfl⟩
 rw[<- a6];have ga:(u2.tp T).grownBy ((u2.tp T).alloc (.cells #[.slice none 0 0] 29)) none:=q34 _ _ none;have Z:=gb a9 (tpg ga);have o3:((u2.tp T).alloc (.cells #[.slice none 0 0] 29)).heap[O]?=some (.cells #[.slice none 0 0] 29 (0,0)):=by rw[a6];exact q7j _ _
 have y3:=blk ga (by simp) (show(u2.tp T).heap[Y]?=_ from y2);have p3:=blk ga (by simp) (show(u2.tp T).heap[X+1]?=_ from p2);have hne:O≠X+1:=by
  have h1:=(q45.1 (show(u2.tp T).heap[X+1]?=_ from p2)).1;omega
 show EL _ _ _ _ _ _ _;generalize (u2.tp T).alloc (.cells #[.slice none 0 0] 29)=u3 at ga Z y3 p3 o3 ⊢;have e4:=q1D a6;clear ga y2 p2 a6;have d9:Out u3 O []:=⟨none,0,0,o3,qe.nil _ _ _⟩
 have d7:xA u3 O Y (X+1) yb ps yc lim pb l pc:=⟨⟨_,_,_,o3⟩,y3,p3,hne,pars.knone Z,yi.knone Z,ints.knone Z,pi.knone Z,by
  obtain⟨cs,e,g,h0,d5⟩:=h0;exact⟨cs,e,g,blk Z (by simp) h0,d5⟩⟩
 refine EL.seq D hb hs ?_;refine EL.region D hb hs ?_;simp only[qa0,q8l,q9k,q9F,q9m,qa4,qb6];refine EL.list D hb hs [0,1] [_,_] (rest:=[2]) rfl λT=>?_;have c1:(u3.tp T).cell? ⟨X+1,0,none⟩=some (.slice pb l.length pc):=qa p3 rfl;go_wp2;refine EL.tape (wq:=u3) ?_ T;refine EL.enter D hb hs (fk:=82) (args:=#[.slice pb l.length pc,.func (.func 83) #[] #[.pointer (some ⟨O,0,none⟩),.pointer (some ⟨Y,0,none⟩),.pointer (some ⟨X+1,0,none⟩)]]) rfl rfl (λT=>by rw[run_call_body (f:=82) rfl Tryp.func82 (by kernel_rfl) rfl];walk_nrm) (zd 82 (by decide)) ?_;refine el82 D hok c9 hin hfs b9 b0 hS d7 d9 _ cs hb hs λv u hR=>?_;obtain⟨b,o,c8,rfl,d6,d8⟩:=hR;rw[qcr];walk_nrm;refine EL.region_end D hb hs ?_;refine EL.seq D hb hs ?_;refine EL.piece D hb hs λT=>?_;obtain⟨ob,on,oc,o4,i4⟩:=d8;have c1:(u.tp T).cell? ⟨O,0,none⟩=some (.slice ob on oc):=qa o4 rfl;go_wp2;refine EL.tape (wq:=u) ?_ T;refine EL.retS D hb hs ?_;exact HR.out _ _ u ⟨o,_,rfl,⟨b,c8⟩,gnew Z d6 (by have h1:=a9.size;have h2:(wq.tp u2.tape).heap.size=wq.heap.size:=rfl;have h3:=e4.out;rw[h3];exact h1),i4⟩
end
end Go.Proofs.YtidgnkmjgioapaaGreat
end
section
namespace Go.Proofs.YtidgnkmjgioapaaGreat
open Go.RowKit
theorem q7v(pv:q58)(ps:List Par)(lim:Int)(w:q3g)(hP:qr 0 w.heap.size w pv ps)(hok:YOk ps lim)
  (D7:∀x:List Int,x.Nodup->(∀y∈x,0<=y/\y<ps.length)->POk ps lim x) (D1:∀p∈ps,p.tall<=lim) (hN:((zN (qQ ps.length) 0).flatMap yh).length<=1000)
  (SL:List (List Int)) (F3:SL=vA ps (zN (qQ ps.length) 0)) (F7:SL.length<=12) (N8:SL≠[]) (F1:∀s∈zE SL.length SL,s≠[]/\∀x∈s,0<=x/\x<5) (f:Nat) (r5:f<=100) (R:List (List Int)) (hf:fewS f (zE SL.length SL) (zq (qQ ps.length)) [([],0)]=some (some R)) :
  qaD Tryp.prog 63 #[.agg #[pv,.int .i64 lim]] w λe w'=>∃v,e=.returned (.tuple #[v,.int .i64 0])/\w.grownBy w' none/\RowsIn 0 w'.heap.size w' v R:=by
 obtain⟨i0,E7,D0,C9,C8⟩:=qch Tryp.info133p;obtain⟨yb,yc,rfl,S1,-⟩:=hP.cell;have HP:=q1D hP;have t1:=q1D hok;have K1:=q1D D7;have H2:=q1D D1;have HN:=q1D hN;have v4:=q1D F3;have HF:=q1D hf;have v3:=q1D F1;clear hP hok D7 D1 hN F3 hf F1;go_enter Tryp.func63,Tryz.ntmps63;go_wp2;refine wp_scope_straight ?_;go_upto_region 4 with(first
  | (go_at_call 81;go_must (refine(vT 0 w.heap.size _ _ ps lim [] _ (HP.out.kept (q34 _ _ none) (by simp)) (qe.nil _ _ _) (by simp) t1.out (POk.nil ps t1.out.l1)).mono ?_);rintro e w2 ⟨rfl,G5⟩;have d7:=q1D ((q34 w (.cells #[.slice yb ps.length yc,.int .i64 lim] 24) none).trans G5);clear G5))
 obtain⟨Y,A7⟩:∃Y,Y=w2.heap.size:=⟨_,rfl⟩
 obtain⟨w3,t9⟩:∃w3,w3=w2.alloc (.cells #[.slice yb ps.length yc,.int .i64 lim] 91):=⟨_,rfl⟩
 rw[<- A7,<- t9];have r8:w3.heap[Y]?=some (.cells #[.slice yb ps.length yc,.int .i64 lim] 91 (0,0)):=by rw[t9,A7];exact q7j _ _
 have v2:w.grownBy w3 none:=d7.out.trans (by rw[t9];exact q34 _ _ none);have B7:=q1D r8;have t6:=q1D v2;have q0:=qa r8 (o:=0) rfl;have q1:=qa r8 (o:=1) rfl;have L1:=q1D ((HP.out.kept v2 (by simp)).mono (q5m _) v2.size);clear A7 t9 r8 v2;go_wp2;go_loopw [29] (λiv wr=>∃k:Nat,iv=.int .i64 k/\k<=ps.length/\w3.grownBy wr none) (λiv _=>(ps.length - qb2 iv).toNat)
 case atStart=>exact⟨0,rfl,by omega,q8j _ _⟩
 case round =>
  obtain⟨k,rfl,hk,hG⟩:=hrel;have HG:=q1D hG;have C2:=L1.out.kept hG (by simp);have M5:=hG.cell q0 (by simp);have M4:=hG.cell q1 (by simp);have N7:Y<wr.heap.size:=by have:=qy B7.out;have:=hG.size;omega
  clear hG;by_cases hlt:k<ps.length
  ·obtain⟨b2,c2,he,-,hc⟩:=C2.cell
   cases he;obtain⟨YB,yo,rfl,T0,S9,r8,m3⟩:=hc (by intro e;rw[e] at hlt;simp at hlt);obtain⟨p,hp,p0,p1,p2,p3⟩:=m3 k (by omega);have S6:=H2.out p (q8z hp);have E5:(k:Int)<(ps.length:Int):=by omega
   clear hc m3 hp C2;go_wp2;go_roundw
   case rel=>exact⟨k+1,by simp,by omega,HG.out.trans (q34 _ _ _)⟩
   case measure=>simp[qb2];omega
  ·obtain rfl:k=ps.length:=by omega
   clear C2;go_upto_region 11 with(fail)
   obtain⟨Sg,A9⟩:∃Sg,Sg=wr.heap.size:=⟨_,rfl⟩
   obtain⟨w4,t8⟩:∃w4,w4=wr.alloc (.cells #[.slice none 0 0] 36):=⟨_,rfl⟩
   rw[<- A9,<- t8];have G9:w4.heap[Sg]?=some (.cells #[.slice none 0 0] 36 (0,0)):=by rw[t8,A9];exact q7j _ _
   have s4:w3.grownBy w4 none:=HG.out.trans (by rw[t8];exact q34 _ _ none);have m3:=blk s4 (by simp) B7.out;have S4:w.heap.size<=Sg:=by have:=t6.out.size;have:=HG.out.size;omega
   have C6:=q1D G9;have s5:=q1D m3;have k6:=q1D (t6.out.trans s4);have L0:=q1D ((HP.out.kept (t6.out.trans s4) (by simp)).mono (q5m _) (t6.out.trans s4).size);have c0:=qa m3 (o:=0) rfl;have c1:=qa m3 (o:=1) rfl;clear A9 t8 G9 s4 m3 B7 q0 q1 M5 M4 N7;have hn:ps.length<=1000:=by have:=t1.out.len;omega
   go_upto_region 12 with(first
    | (go_at_call 100;refine(xS yb ps.length yc lim w4 hn).mono ?_;rintro e w5 ⟨v5,rfl,G4,B6⟩;obtain⟨b5,k5,e5,-,-⟩:=B6.cell;rw[qP] at e5;subst e5;have b8:=q1D G4;have L8:=q1D B6;clear G4 B6)
    | (go_at_call 82;refine(few_sub (blk b8.out (by simp) s5.out) ((L0.out.kept b8.out (by simp)).mono (q5m _) b8.out.size) (blk b8.out (by simp) C6.out) t1.out K1.out HN.out (L8.out.mono (qa8 _) (q5m _))).mono ?_;rintro e w6 ⟨rfl,G6,G7⟩;have k7:=q1D G7;clear G7))
   obtain⟨SB,sc,k0,F5,n4⟩:=k7.out.rows (by rw[<- v4.out];exact N8) (by rw[<- v4.out];omega);rw[<- v4.out] at k0 n4;have d6:w.grownBy w6 none:=⟨k7.out.os.trans (k6.out.trans b8.out).os,k7.out.tape.trans (k6.out.trans b8.out).tape,k7.out.output.trans (k6.out.trans b8.out).output,q87 (k6.out.trans b8.out).size k7.out.size,λk hk _=>(k7.out.keep k (q8m hk (k6.out.trans b8.out).size) (by omega)).trans ((k6.out.trans b8.out).block k hk (by simp))⟩
   have A8:w6.heap[Y]?=_:=(k7.out.keep Y (qy (blk b8.out (by simp) s5.out)) (λe=>by have h:=s5.out;rw[e,C6.out] at h;injection h with h;injection h with _ h _;exact absurd h (by decide))).trans (blk b8.out (by simp) s5.out);have N0:=n4;obtain⟨T1,p4,-⟩:=N0;have F4:SB<w6.heap.size:=qy p4;have M1:=q1D d6;have H1:=q1D A8;have H6:=q1D k0;have H8:=q1D n4;have M6:w.heap.size<=SB:=by have:=(k6.out.trans b8.out).size;omega
   have F2:SB≠Sg:=λe=>by rw[e,k0] at p4;injection p4 with h;injection h with _ h _;exact absurd h (by decide)
   have B3:SB≠Y:=λe=>by rw[e,A8] at p4;injection p4 with h;injection h with _ h _;exact absurd h (by decide)
   have L5:=q1D (show w5.heap.size<=SB from F5);have c6:=qa k0 (o:=0) rfl;clear d6 A8 k0 n4 F5 c0 c1 k7 p4;go_upto_region 13 with(first
    | (go_at_call 121;refine(q9a _ _ SB 0 sc SL w6 H8.out (q5m _) F7).mono ?_;rintro e w7 ⟨rfl,G3,F9⟩;have g6:=q1D G3;have H7:=q1D F9;clear G3 F9))
   have u9:=blk g6.out (by simpa using λe=>B3 e.symm) H1.out;have F6:=blk g6.out (by simpa using λe=>F2 e.symm) H6.out;have T3:=q1D u9;have H4:=q1D F6;have e8:w.grownBy w7 none:=xx M1.out g6.out M6;have M0:=q1D e8;have d0:=qa u9 (o:=0) rfl;have d1:=qa u9 (o:=1) rfl;clear u9 F6 c6 e8;have h5:∀x∈qQ ps.length,0<=x/\x<5:=λx hx=>by have:=Yl hx;have:=t1.out.len;omega
   have H5:=q1D h5;clear h5;go_upto_region 14 with(first
    | (go_at_call 100;refine(xS yb ps.length yc lim w7 hn).mono ?_;rintro e w9 ⟨v9,rfl,G2,B5⟩;obtain⟨b9,k9,e9,-,-⟩:=B5.cell;rw[qP] at e9;subst e9;have v7:=q1D G2;have L6:=q1D B5;clear G2 B5)
    | (go_at_call 123;refine(KQ _ _ _ _ w9 L6.out H5.out).mono ?_;rintro e R7 ⟨rfl,rfl⟩))
   obtain⟨S,hS⟩:∃S,S=zE SL.length SL:=⟨_,rfl⟩
   have m4:S.length=SL.length:=by rw[hS,Je]
   rw[<- hS] at HF v3;obtain⟨al,E9⟩:∃al,al=zq (qQ ps.length):=⟨_,rfl⟩
   rw[<- E9] at HF ⊢;have F8:RowsIn 0 w9.heap.size w9 (.slice (some ⟨SB,0,none⟩) S.length sc) S:=by
    have h1:zh w5.heap.size w6.heap.size SB 0 w7 S:=by rw[hS];exact H7.out
    have h2:=h1.rows F4 L5.out (by omega) sc;exact(h2.kept v7.out (by simp)).mono (qa8 _) (q87 g6.out.size v7.out.size)
   rw[<- m4] at H4;have E8:w.grownBy w9 none:=M0.out.trans v7.out;have z4:=blk v7.out (by simp) H4.out;have c9:=qa z4 (o:=0) rfl;have R5:=qy z4;have P1:=q1D F8;have P7:=q1D E8;have P0:=q1D m4;have r9:S.length<=12:=by omega
   clear hS E9 F8 E8 z4 m4 v4 H2 HN K1 HP L1 L0 C6 s5 H1 H6 H8 H7 L8 L6 d7 t6 k6 b8 M1 g6 M0 HG d0 d1 L5 H5;go_upto_region 15 with(fail)
   have G8:FewP S al R (.slice (some ⟨w9.heap.size,0,none⟩) 1 1) (w9.alloc (.cells #[.slice none 0 0,.int .u8 0] 133)) f:=by
    refine⟨[([],0)],⟨_,1,rfl,λ_=>⟨w9.heap.size,0,_,_,rfl,by simp,q7j _ _,λi hi=>?_⟩⟩,⟨by simp,λp hp=>?_⟩,λp hp=>?_,HF.out⟩
    ·obtain rfl:i=0:=by simp at hi;omega
     exact⟨([],0),_,_,rfl,rfl,rfl,⟨none,0,rfl,by simp,λh=>absurd rfl h⟩,rfl,λa n c e=>by cases e;omega⟩
    ·obtain rfl:p=([],0):=by simpa using hp
     simp
    ·obtain rfl:p=([],0):=by simpa using hp
     simpa using r5
   have P8:=q1D G8;clear G8;refine wp_label ?_;go_wp2;go_loopw [10] (λnv wr=>(∃m,m<=100/\FewP S al R nv wr m)/\w9.grownBy wr none) (λnv wr=>q5G S al R nv wr)
   case atStart=>exact⟨⟨f,r5,P8.out⟩,q34 _ _ none⟩
   case round =>
    obtain⟨wo,rfl⟩:∃x,x=wr:=⟨wr,rfl⟩
    obtain⟨⟨m,hm,hP⟩,hg⟩:=hrel;have hQ:=q4D hm hP;have N4:=q2r hm hP;obtain⟨m0,A3⟩:∃m0,m0=q5G S al R u10 wo:=⟨_,rfl⟩
    rw[<- A3] at hQ N4;obtain⟨recs,n9,p9,D3,m9⟩:=hQ;have D5:=n9;obtain⟨nb,nc,rfl,-⟩:=D5;cases m0 with
    | zero=>cases m9
    | succ n =>
     simp only[fewS] at m9;have P6:=q1D A3;have HG:=q1D hg;have P2:=q1D n9;have s6:=q1D p9;have B9:=q1D D3;have x7:=q1D m9;have M9:=p9.1;have N3:n<100:=by omega
     clear hm hP hg A3 n9 p9 D3 m9;go_wp2;go_loopw [11,53] (λnx iv wq=>∃k:Nat,iv=.int .i64 k/\k<=recs.length/\(∀p∈recs.take k,p.2≠al)/\wo.grownBy wq none/\jF wo.heap.size wq nx (jq S (recs.take k))) (λ_ iv _=>(recs.length - qb2 iv).toNat)
     case atStart=>exact⟨0,rfl,by omega,by simp,q8j _ _,jF.nil _ _⟩
     case round =>
      obtain⟨k,rfl,hk,E2,A6,l6⟩:=hrel;have t5:=q1D A6;have d9:=A6;have C4:=q1D E2;have v6:=q1D l6;clear A6 E2 l6;by_cases hlt:k<recs.length
      ·obtain⟨RB,ro,p,pa,pn,pc,rfl,D9,D8,r1,r2,r3,r4⟩:=P2.out.at hlt
       have N6:=d9.cell r1 (by simp);have N5:=d9.cell r2 (by simp);have E5:(k:Int)<(recs.length:Int):=by omega
       obtain⟨a6,a7⟩:=p;dsimp only at r1 r2 r3 r4 D8;subst D8;have H0:=(HG.out.trans d9).cell c9 (by simp);have R4:Sg<wr.heap.size:=by have:=(HG.out.trans d9).size;omega
       go_upto_region 19 with(fail)
       obtain⟨Pb,v1⟩:∃Pb,Pb=wr.heap.size:=⟨_,rfl⟩
       obtain⟨w1,u0⟩:∃w1,w1=wr.alloc (.cells #[.slice pa a6.length pc,.int .u8 (a7:Nat)] 133):=⟨_,rfl⟩
       rw[<- v1,<- u0];have h8:wr.grownBy w1 none:=by rw[u0];exact q34 _ _ none
       have m7:w1.heap[Pb]?=some (.cells #[.slice pa a6.length pc,.int .u8 (a7:Nat)] 133 (0,0)):=by rw[u0,v1];exact q7j _ _
       have b0:=qa m7 (o:=0) rfl;have b1:=qa m7 (o:=1) rfl;have N9:=h8.cell H0 (by simp);have H9:=q1D r3;have P3:=q1D ((r3.kept (d9.trans h8) (by simp)).mono (q5m _) (d9.trans h8).size);have K2:=q1D m7;have n7:=q1D h8;have s9:=q1D v1;have p5:=q1D D9;clear m7 u0 h8 v1 r1 r2 r3 N6 N5 D9 H0 d9;by_cases z7:a7=al
       ·subst z7
        go_wp2;rw[Exit.noGoto_ret];go_ret2;have c3:=x7.out;rw[q6k (λp:Rec=>p.2 == a7) recs k _ p5.out (by simp) (λi y hi hy=>by
         have:=C4.out y (q8z (by rw[List.getElem?_take_of_lt hi];exact hy));simpa using this)] at c3
        simp only[qaz] at c3;exact⟨_,rfl,P7.out.trans (HG.out.trans (t5.out.trans n7.out)),by rw[<- c3];exact P3.out⟩
       ·have Q4:((a7:Int) == (al:Int))=false:=by rw[beq_eq_false_iff_ne];omega
        have P4:=q1D z7;clear z7;obtain⟨wp,hwp⟩:∃x,x=wr:=⟨wr,rfl⟩
        have x5:wo.grownBy w1 none:=t5.out.trans n7.out;have Q2:wo.heap.size<=Pb:=by have:=t5.out.size;have:=s9.out;omega
        have E4:∀g,u11.ownBlock=some g->g≠Pb:=λg e=>by
         obtain⟨C,h1,-,-⟩:=v6.out;have:=(h1.lt g e).2;have:=s9.out;omega
        have L4:=q1D (v6.out.kept n7.out);have L9:=q1D x5;have P5:=q1D E4;clear hwp x5 E4 v6 n7 t5 s9;go_wp2;clear b0 b1 N9;go_loopw [11,65] (λnx iv wq=>∃j:Nat,iv=.int .i64 j/\j<=S.length/\wo.grownBy wq none/\wq.heap[Pb]?=some (.cells #[.slice pa a6.length pc,.int .u8 (a7:Nat)] 133 (0,0))/\(∀g,nx.ownBlock=some g->g≠Pb)/\jF wo.heap.size wq nx (jq S (recs.take k)++((S.take j).filter (okF (a6,a7))).map (Qo (a6,a7)))) (λ_ iv _=>(S.length - qb2 iv).toNat)
        case atStart=>exact⟨0,rfl,by omega,L9.out,K2.out,P5.out,by simpa using L4.out⟩
        case round =>
         obtain⟨j,rfl,hj,l7,g8,x4,x3⟩:=hrel;have S8:=qa (o:=0) g8 rfl;have R3:=qa (o:=1) g8 rfl;have g5:=q1D l7;have e6:=q1D g8;have e7:=q1D x4;have n6:=q1D x3;have P9:=l7.size;have R6:=qy g8;clear g8 x4 x3;by_cases A4:j<S.length
         ·obtain⟨R9,R8,eS,-,v0⟩:=(P1.out.kept (HG.out.trans l7) (by simp)).cell
          cases eS;obtain⟨T2,so,eS,-,-,-,v0⟩:=v0 (by intro e;rw[e] at A4;simp at A4);cases eS;obtain⟨s,x,z3,M7,u5⟩:=v0 j A4;rw[q9m] at M7;obtain⟨xb,xc,rfl,-,x0⟩:=u5.cell;obtain⟨w8,D2⟩:=v3.out s (q8z z3);obtain⟨XB,xo,rfl,-,-,-,k8⟩:=x0 w8;have z2:0<s.length:=List.length_pos_iff.2 w8;have k8:=k8 0 z2;have R2:(j:Int)<(S.length:Int):=by omega
          have M2:(0:Int)<(s.length:Int):=by omega
          have p8:=λC (h:World.grownBy _ C none)=>KQ _ _ _ s C (u5.kept h (by simp)) D2;have A0:=Qh s 5 λy hy=>by have:=D2 y hy;omega
          have m8:okF (a6,a7) s=(!(decide (0<a6.length) && decide (Jf s<=Jf (q6e a6))) && decide (a7 &&& zq s=0)):=rfl;have q4:=(s6.out.2 _ (q8z p5.out)).2.1;have d5:=q83 ⟨a7,q4⟩ ⟨zq s,A0⟩;have hor:=qaw ⟨a7,q4⟩ ⟨zq s,A0⟩;have r6:Qo (a6,a7) s=(a6++[s],a7 ||| zq s):=rfl;simp only at d5 hor q4;rw[show s[0]?.getD 0=Jf s from rfl] at k8;generalize zq s=ms at p8 A0 m8 d5 hor r6;generalize Jf s=hs at k8 m8;have x6:(S.take (j+1)).filter (okF (a6,a7))=(S.take j).filter (okF (a6,a7))++(if okF (a6,a7) s=true then[s] else[]):=by
           rw[qbc,z3,List.filter_append];simp[List.filter_cons]
          have t7:=q1D x6;have e4:=q1D p8;have a9:=q1D m8;have n8:=q1D d5;have L3:=q1D hor;have x8:=q1D r6;have H3:=q1D u5;have s8:=q1D ((H9.out.kept l7 (by simp)).mono (q5m _) l7.size);clear x6 p8 m8 d5 hor r6 u5 v0 z3 l7 x0;have r7:okF (a6,a7) s=false->∀C,wr.grownBy C none->jF wo.heap.size C u11 (jq S (recs.take k)++((S.take (j+1)).filter (okF (a6,a7))).map (Qo (a6,a7))):=λe C h=>by
           rw[t7.out,e];simpa using n6.out.kept h
          have m6:=q1D r7;clear r7;have v8:w9.heap.size<=wr.heap.size:=(HG.out.trans g5.out).size;have x2:=B9.out _ (q8z p5.out);dsimp only at x2;have Q3:a6.length<=100:=by omega
          clear x2;by_cases u6:0<a6.length
          ·have N1:(0:Int)<(a6.length:Int):=by omega
           rw[show decide (0<a6.length)=true by simpa using u6] at a9;simp only[Bool.true_and] at a9;obtain⟨lb,lc,el,-,u7⟩:=s8.out.cell;cases el;obtain⟨LB,lo,rfl,-,-,-,u7⟩:=u7 (by intro e;rw[e] at u6;simp at u6);obtain⟨r,x,n9,S5,D4⟩:=u7 (a6.length - 1) (by omega);have q6:q6e a6=r:=by unfold q6e;rw[n9];rfl
           have D6:=(s6.out.2 _ (q8z p5.out)).1 r (q8z n9);obtain⟨x1,-⟩:=v3.out r D6;obtain⟨rb,rc,rfl,-,l4⟩:=D4.cell;obtain⟨QB,qo,rfl,-,-,-,l4⟩:=l4 x1;have z5:0<r.length:=List.length_pos_iff.2 x1;have l4:=l4 0 z5;rw[Nat.add_zero] at l4;have k8:=k8;rw[Nat.add_zero] at k8;rw[q6] at a9;rw[show r[0]?.getD 0=Jf r from rfl] at l4;have M3:(0:Int)<(r.length:Int):=by omega
           have S3:IntKind.i64.wrap ((a6.length:Int) - 1)=(a6.length:Int) - 1:=qa7 _ (by omega);have hnt:((a6.length:Int) - 1).toNat=a6.length - 1:=by omega
           have R1:(0:Int)<=(a6.length:Int) - 1:=by omega
           have R0:(a6.length:Int) - 1<(a6.length:Int):=by omega
           generalize Jf r=hr at l4 a9;clear u7 q6 D6 D4;by_cases hle:hs<=hr
           ·have hok:okF (a6,a7) s=false:=by rw[a9.out];simp[hle]
            have b7:=q1D hok;clear hok;go_upto_region 25 with(fail)
            go_quiet (first | (go_at_call 123;refine qc4 ((e4.out _ (qi _ _ none)).mono (λe w5 h=>⟨h.1,h.2.symm⟩))));go_wp2;exact⟨⟨j+1,by simp,by omega,g5.out.trans (qi _ _ none),e6.out,e7.out,m6.out b7.out _ (qi _ _ none)⟩,by simp[qb2];omega⟩
           ·rw[show decide (hs<=hr)=false by simpa using hle] at a9
            simp only[Bool.not_false,Bool.true_and] at a9;by_cases hz:a7 &&& ms=0
            ·have z0:(((a7 &&& ms:Nat):Int) != 0)=false:=by rw[hz];rfl
             have hok:okF (a6,a7) s=true:=by rw[a9.out];simpa using hz
             have b7:=q1D hok;have d5:=n8.out;clear hz hok;go_upto_region 25 with(fail)
             go_quiet (first | (go_at_call 123;refine qc4 ((e4.out _ (qi _ _ none)).mono (λe w5 h=>⟨h.1,h.2.symm⟩))));go_upto_region 26 with(fail)
             have l9:=qi wr nq none;have z1:wr.heap.size=(wr.drewN nq).heap.size:=rfl;generalize wr.drewN nq=wa at l9 z1 ⊢;have l8:wr.grownBy wa.drew none:=l9.trans (qc wa none);have l5:=blk l8 (by simp) e6.out;have s0:wa.drew.cell? ⟨Pb,0,none⟩=some (.slice (some ⟨LB,lo,none⟩) a6.length pc)/\wa.drew.cell? ⟨Pb,1,none⟩=some (.int .u8 (a7:Nat)):=⟨qa l5 rfl,qa l5 rfl⟩
             have p7:=s0.1;have p6:=s0.2;obtain⟨C,n1,n2,n3⟩:=n6.out;obtain⟨oa,om,oc,eo⟩:=zV n1;subst eo;have C5:=q1D l8;have c8:=q1D n1;have t4:=q1D n2;have t3:=q1D n3;have hor:=L3.out;have E0:(a6.length:Int)<=(pc:Int):=by omega
             have E3:(0:Int)<=(a6.length:Int):=by omega
             have B4:(jq S (recs.take k)++((S.take j).filter (okF (a6,a7))).map (Qo (a6,a7))).length<=20000:=by
              have h1:=KX S (recs.take k);have h2:=qcd (okF (a6,a7)) (S.take j);have h3:(recs.take k).length*S.length<=1000*12:=Nat.mul_le_mul (by rw[qcD];omega) r9;rw[qb3,qcl];rw[qcD] at h2;omega
             generalize s1:(jq S (recs.take k)++((S.take j).filter (okF (a6,a7))).map (Qo (a6,a7)))=RR at c8 t4 t3 B4;have B8:=q1D s1;have hlo:wo.heap.size<=wa.heap.size:=by have:=g5.out.size;omega
             clear l9 l8 l5 n1 n2 n3 s1;refine qR 21 (λw'=>w'.cell? ⟨Pb,0,none⟩=some (.slice (some ⟨LB,lo,none⟩) a6.length pc)/\w'.cell? ⟨Pb,1,none⟩=some (.int .u8 (a7:Nat))) (by kernel_rfl) (by kernel_rfl) s0 (λZ=>?_);simp only[q8l,q9k,q9F,qbA,q9m,qao,qat,qbd,qae,q9y];refine tk 0 ?_;try go_frame
             refine tk 1 ?_;try go_frame
             refine tk 2 ?_;try go_frame
             refine tk 3 ?_;try go_frame
             refine tk 4 ?_;try go_frame
             refine tk 5 ?_;try go_frame
             refine tk 6 ?_;try go_frame
             refine tk 7 ?_;try go_frame
             refine tk 8 ?_;try go_frame
             refine tk 9 ?_;try go_frame
             refine tk 10 ?_;try go_frame
             refine tk 13 ?_;try go_frame
             refine tk 14 ?_;try go_frame
             refine tk 15 ?_;try go_frame
             refine rdy [11] ?_;refine cns 11 (λK hK=>?_) ?_
             ·skip
              go_simp;refine hK.out _ _ (by first | exact Z | exact s7 | exact s2 | exact⟨(q34 _ _ none).cell Z.1 (by simp),(q34 _ _ none).cell Z.2 (by simp)⟩) (λZ=>?_);clear hK K;try go_frame
              refine rdy [12] ?_;refine cns 12 (λK hK=>?_) ?_
              ·skip
               have hgb:wr.grownBy (wa.drew.alloc (.cells #[.slice (some ⟨XB,xo,none⟩) s.length xc] 29)) none:=C5.out.trans (q34 _ _ none);refine JR rfl (.tmp 105) (.tmp 107) rfl (nc:=pc) (B:=wa.heap.size) (y:=.slice (some ⟨XB,xo,none⟩) s.length xc) (l:=s) (by rfl) (by rfl) ((s8.out.kept hgb (by simp)).mono (q5m _) hgb.size) (jf wa.drew _ _ _) ((H3.out.kept hgb (by simp)).mono (qa8 _) (q87 v8 hgb.size)) (by omega) (λg cap w2 q2 q3 q5=>?_);have hg2:=hgb.trans q2;have s2:w2.cell? ⟨Pb,0,none⟩=some (.slice (some ⟨LB,lo,none⟩) a6.length pc)/\w2.cell? ⟨Pb,1,none⟩=some (.int .u8 (a7:Nat)):=⟨q2.cell ((q34 wa.drew _ none).cell p7 (by simp)) (by simp),q2.cell ((q34 wa.drew _ none).cell p6 (by simp)) (by simp)⟩
               have d7:=q1D hg2;have C1:=q1D q3;have C0:=q1D q5;have M8:wa.heap.size<=w2.heap.size:=by have:=hg2.size;omega
               clear hgb q2 q3 q5 hg2;refine hK.out _ _ (by first | exact Z | exact s7 | exact s2 | exact⟨(q34 _ _ none).cell Z.1 (by simp),(q34 _ _ none).cell Z.2 (by simp)⟩) (λZ=>?_);clear hK K;try go_frame
               refine rdy [16] ?_;refine cns 16 (λK hK=>?_) ?_
               ·skip
                go_simp;go_at_call 123;refine(e4.out w2 d7.out).mono ?_;rintro e w3 ⟨rfl,rfl⟩;refine hK.out _ _ (by first | exact Z | exact s7 | exact s2 | exact⟨(q34 _ _ none).cell Z.1 (by simp),(q34 _ _ none).cell Z.2 (by simp)⟩) (λZ=>?_);clear hK K;try go_frame
                refine tk 17 ?_;try go_frame
                refine tk 18 ?_;try go_frame
                refine rdy [19] ?_;refine cns 19 (λK hK=>?_) ?_
                ·skip
                 go_simp;refine hK.out _ _ (by first | exact Z | exact s7 | exact s2 | exact⟨(q34 _ _ none).cell Z.1 (by simp),(q34 _ _ none).cell Z.2 (by simp)⟩) (λZ=>?_);clear hK K;try go_frame
                 refine rdy [20] ?_;refine cns 20 (λK hK=>?_) ?_
                 ·skip
                  have s3:=jK (C:=w2) c8.out (λg e=>d7.out.block g (c8.out.lt g e).2 (by simp));refine step_append_lies _ (by rfl) _ _ _ (by rfl) wo.heap.size 133 i0 _ 2 32 Tryp.und134 E7 D0 C9 C8 rfl (by omega) (.slice oa om oc) RR.length (ZK C) (by rfl) (by exact s3.alloc _) ⟨w2.heap.size,0,none⟩ 1 1 [.slice (some ⟨g,0,none⟩) (a6.length+1) cap,.int .u8 ((a7 ||| ms:Nat):Int)] (by rfl) (by rfl) (qbg (cs:=#[.slice (some ⟨g,0,none⟩) (a6.length+1) cap,.int .u8 ((a7 ||| ms:Nat):Int)]) (t:=133) (fr:=(0,0)) (q7j w2 _)) (by simp[qbD]) (by omega) (by unfold maxLen;omega) (by omega) (by simp;omega) (w2.heap.size+1) (by simp) ?_;intro g' cp w7 d8 a8 h9 q7;have h6:(w2.alloc (.cells #[.slice (some ⟨g,0,none⟩) (a6.length+1) cap,.int .u8 ((a7 ||| ms:Nat):Int)] 133)).grownBy w7 (qbp oa om oc).ownBlock:=⟨a8.os,a8.tape,a8.output,a8.size,a8.block⟩
                  have d6:=d7.out.trans (q34 w2 (.cells #[.slice (some ⟨g,0,none⟩) (a6.length+1) cap,.int .u8 ((a7 ||| ms:Nat):Int)] 133) none);have e8:wr.grownBy w7 (qbp oa om oc).ownBlock:=(d6.but _).trans h6;have b6:=blk e8 (λe=>e7.out _ e.symm rfl) e6.out;have s7:w7.cell? ⟨Pb,0,none⟩=some (.slice (some ⟨LB,lo,none⟩) a6.length pc)/\w7.cell? ⟨Pb,1,none⟩=some (.int .u8 (a7:Nat)):=⟨qa b6 rfl,qa b6 rfl⟩
                  have m5:=jK (C:=w2.alloc (.cells #[.slice (some ⟨g,0,none⟩) (a6.length+1) cap,.int .u8 ((a7 ||| ms:Nat):Int)] 133)) c8.out (λg e=>d6.block g (c8.out.lt g e).2 (by simp));have g7:vK (w2.alloc (.cells #[.slice (some ⟨g,0,none⟩) (a6.length+1) cap,.int .u8 ((a7 ||| ms:Nat):Int)] 133)) (.slice (some ⟨g,0,none⟩) (a6.length+1) cap) (.int .u8 ((a7 ||| ms:Nat):Int)) (a6++[s],a7 ||| ms):=⟨(C1.out.kept (q34 w2 _ none) (by simp)).mono (q5m _) (q34 w2 _ none).size,rfl,λa n c e=>by cases e;exact C0.out⟩
                  have g9:=jF.push m5 t4.out (λi p x e1 e2=>(t3.out i p x e1 e2).kept d6) h6 d8 (g7.app m5 h6);have t2:=q1D g9;have g6:=q1D e8;have C3:=q1D b6;have C7:=q1D h9;clear d8 a8 h9 q7 h6 d6 e8 b6 s3 m5 g7 g9;refine hK.out _ _ (by first | exact Z | exact s7 | exact s2 | exact⟨(q34 _ _ none).cell Z.1 (by simp),(q34 _ _ none).cell Z.2 (by simp)⟩) (λZ=>?_);clear hK K;try go_frame
                  refine⟨by kernel_rfl,?_⟩;simp only[qbh,qbH];clear s0 p7 p6 s2 s7 Z;go_wp2;refine⟨⟨j+1,by simp,by omega,g5.out.andThen g6.out (λi e=>.inl (c8.out.lt i e).1),C3.out,λi e=>?_,?_⟩,by simp[qb2];omega⟩
                  ·obtain rfl:g'=i:=by simpa[qak] using e
                   rcases C7.out with h | h
                   ·exact e7.out _ h
                   ·have:=d7.out.size
                    omega
                  ·rw[t7.out,if_pos b7.out,qc5,<- qc1,B8.out,show List.map (Qo (a6,a7)) [s]=[Qo (a6,a7) s] from rfl,x8.out]
                   exact t2.out
                 exact qm.nil
                exact qm.nil
               exact qm.nil
              exact qm.nil
             exact qm.nil
            ·have z0:(((a7 &&& ms:Nat):Int) != 0)=true:=by simpa using hz
             have hok:okF (a6,a7) s=false:=by rw[a9.out];simpa using hz
             have b7:=q1D hok;have d5:=n8.out;clear hz hok;go_upto_region 25 with(fail)
             go_quiet (first | (go_at_call 123;refine qc4 ((e4.out _ (qi _ _ none)).mono (λe w5 h=>⟨h.1,h.2.symm⟩))));go_wp2;exact⟨⟨j+1,by simp,by omega,g5.out.trans (qi _ _ none),e6.out,e7.out,m6.out b7.out _ (qi _ _ none)⟩,by simp[qb2];omega⟩
          ·have N1:¬ (0:Int)<(a6.length:Int):=by omega
           rw[show decide (0<a6.length)=false by simpa using u6] at a9;simp only[Bool.false_and,Bool.not_false,Bool.true_and] at a9;by_cases hz:a7 &&& ms=0
           ·have z0:(((a7 &&& ms:Nat):Int) != 0)=false:=by rw[hz];rfl
            have hok:okF (a6,a7) s=true:=by rw[a9.out];simpa using hz
            have b7:=q1D hok;have d5:=n8.out;clear hz hok;go_upto_region 25 with(fail)
            go_quiet (first | (go_at_call 123;refine qc4 ((e4.out _ (qi _ _ none)).mono (λe w5 h=>⟨h.1,h.2.symm⟩))));go_upto_region 26 with(fail)
            have l9:=qi wr nq none;have z1:wr.heap.size=(wr.drewN nq).heap.size:=rfl;generalize wr.drewN nq=wa at l9 z1 ⊢;have l8:wr.grownBy wa.drew none:=l9.trans (qc wa none);have l5:=blk l8 (by simp) e6.out;have s0:wa.drew.cell? ⟨Pb,0,none⟩=some (.slice pa a6.length pc)/\wa.drew.cell? ⟨Pb,1,none⟩=some (.int .u8 (a7:Nat)):=⟨qa l5 rfl,qa l5 rfl⟩
            have p7:=s0.1;have p6:=s0.2;obtain⟨C,n1,n2,n3⟩:=n6.out;obtain⟨oa,om,oc,eo⟩:=zV n1;subst eo;have C5:=q1D l8;have c8:=q1D n1;have t4:=q1D n2;have t3:=q1D n3;have hor:=L3.out;have E0:(a6.length:Int)<=(pc:Int):=by omega
            have E3:(0:Int)<=(a6.length:Int):=by omega
            have B4:(jq S (recs.take k)++((S.take j).filter (okF (a6,a7))).map (Qo (a6,a7))).length<=20000:=by
             have h1:=KX S (recs.take k);have h2:=qcd (okF (a6,a7)) (S.take j);have h3:(recs.take k).length*S.length<=1000*12:=Nat.mul_le_mul (by rw[qcD];omega) r9;rw[qb3,qcl];rw[qcD] at h2;omega
            generalize s1:(jq S (recs.take k)++((S.take j).filter (okF (a6,a7))).map (Qo (a6,a7)))=RR at c8 t4 t3 B4;have B8:=q1D s1;have hlo:wo.heap.size<=wa.heap.size:=by have:=g5.out.size;omega
            clear l9 l8 l5 n1 n2 n3 s1;refine qR 21 (λw'=>w'.cell? ⟨Pb,0,none⟩=some (.slice pa a6.length pc)/\w'.cell? ⟨Pb,1,none⟩=some (.int .u8 (a7:Nat))) (by kernel_rfl) (by kernel_rfl) s0 (λZ=>?_);simp only[q8l,q9k,q9F,qbA,q9m,qao,qat,qbd,qae,q9y];refine tk 0 ?_;try go_frame
            refine tk 1 ?_;try go_frame
            refine tk 2 ?_;try go_frame
            refine tk 3 ?_;try go_frame
            refine tk 4 ?_;try go_frame
            refine tk 5 ?_;try go_frame
            refine tk 6 ?_;try go_frame
            refine tk 7 ?_;try go_frame
            refine tk 8 ?_;try go_frame
            refine tk 9 ?_;try go_frame
            refine tk 10 ?_;try go_frame
            refine tk 13 ?_;try go_frame
            refine tk 14 ?_;try go_frame
            refine tk 15 ?_;try go_frame
            refine rdy [11] ?_;refine cns 11 (λK hK=>?_) ?_
            ·skip
             go_simp;refine hK.out _ _ (by first | exact Z | exact s7 | exact s2 | exact⟨(q34 _ _ none).cell Z.1 (by simp),(q34 _ _ none).cell Z.2 (by simp)⟩) (λZ=>?_);clear hK K;try go_frame
             refine rdy [12] ?_;refine cns 12 (λK hK=>?_) ?_
             ·skip
              have hgb:wr.grownBy (wa.drew.alloc (.cells #[.slice (some ⟨XB,xo,none⟩) s.length xc] 29)) none:=C5.out.trans (q34 _ _ none);refine JR rfl (.tmp 105) (.tmp 107) rfl (nc:=pc) (B:=wa.heap.size) (y:=.slice (some ⟨XB,xo,none⟩) s.length xc) (l:=s) (by rfl) (by rfl) ((s8.out.kept hgb (by simp)).mono (q5m _) hgb.size) (jf wa.drew _ _ _) ((H3.out.kept hgb (by simp)).mono (qa8 _) (q87 v8 hgb.size)) (by omega) (λg cap w2 q2 q3 q5=>?_);have hg2:=hgb.trans q2;have s2:w2.cell? ⟨Pb,0,none⟩=some (.slice pa a6.length pc)/\w2.cell? ⟨Pb,1,none⟩=some (.int .u8 (a7:Nat)):=⟨q2.cell ((q34 wa.drew _ none).cell p7 (by simp)) (by simp),q2.cell ((q34 wa.drew _ none).cell p6 (by simp)) (by simp)⟩
              have d7:=q1D hg2;have C1:=q1D q3;have C0:=q1D q5;have M8:wa.heap.size<=w2.heap.size:=by have:=hg2.size;omega
              clear hgb q2 q3 q5 hg2;refine hK.out _ _ (by first | exact Z | exact s7 | exact s2 | exact⟨(q34 _ _ none).cell Z.1 (by simp),(q34 _ _ none).cell Z.2 (by simp)⟩) (λZ=>?_);clear hK K;try go_frame
              refine rdy [16] ?_;refine cns 16 (λK hK=>?_) ?_
              ·skip
               go_simp;go_at_call 123;refine(e4.out w2 d7.out).mono ?_;rintro e w3 ⟨rfl,rfl⟩;refine hK.out _ _ (by first | exact Z | exact s7 | exact s2 | exact⟨(q34 _ _ none).cell Z.1 (by simp),(q34 _ _ none).cell Z.2 (by simp)⟩) (λZ=>?_);clear hK K;try go_frame
               refine tk 17 ?_;try go_frame
               refine tk 18 ?_;try go_frame
               refine rdy [19] ?_;refine cns 19 (λK hK=>?_) ?_
               ·skip
                go_simp;refine hK.out _ _ (by first | exact Z | exact s7 | exact s2 | exact⟨(q34 _ _ none).cell Z.1 (by simp),(q34 _ _ none).cell Z.2 (by simp)⟩) (λZ=>?_);clear hK K;try go_frame
                refine rdy [20] ?_;refine cns 20 (λK hK=>?_) ?_
                ·skip
                 have s3:=jK (C:=w2) c8.out (λg e=>d7.out.block g (c8.out.lt g e).2 (by simp));refine step_append_lies _ (by rfl) _ _ _ (by rfl) wo.heap.size 133 i0 _ 2 32 Tryp.und134 E7 D0 C9 C8 rfl (by omega) (.slice oa om oc) RR.length (ZK C) (by rfl) (by exact s3.alloc _) ⟨w2.heap.size,0,none⟩ 1 1 [.slice (some ⟨g,0,none⟩) (a6.length+1) cap,.int .u8 ((a7 ||| ms:Nat):Int)] (by rfl) (by rfl) (qbg (cs:=#[.slice (some ⟨g,0,none⟩) (a6.length+1) cap,.int .u8 ((a7 ||| ms:Nat):Int)]) (t:=133) (fr:=(0,0)) (q7j w2 _)) (by simp[qbD]) (by omega) (by unfold maxLen;omega) (by omega) (by simp;omega) (w2.heap.size+1) (by simp) ?_;intro g' cp w7 d8 a8 h9 q7;have h6:(w2.alloc (.cells #[.slice (some ⟨g,0,none⟩) (a6.length+1) cap,.int .u8 ((a7 ||| ms:Nat):Int)] 133)).grownBy w7 (qbp oa om oc).ownBlock:=⟨a8.os,a8.tape,a8.output,a8.size,a8.block⟩
                 have d6:=d7.out.trans (q34 w2 (.cells #[.slice (some ⟨g,0,none⟩) (a6.length+1) cap,.int .u8 ((a7 ||| ms:Nat):Int)] 133) none);have e8:wr.grownBy w7 (qbp oa om oc).ownBlock:=(d6.but _).trans h6;have b6:=blk e8 (λe=>e7.out _ e.symm rfl) e6.out;have s7:w7.cell? ⟨Pb,0,none⟩=some (.slice pa a6.length pc)/\w7.cell? ⟨Pb,1,none⟩=some (.int .u8 (a7:Nat)):=⟨qa b6 rfl,qa b6 rfl⟩
                 have m5:=jK (C:=w2.alloc (.cells #[.slice (some ⟨g,0,none⟩) (a6.length+1) cap,.int .u8 ((a7 ||| ms:Nat):Int)] 133)) c8.out (λg e=>d6.block g (c8.out.lt g e).2 (by simp));have g7:vK (w2.alloc (.cells #[.slice (some ⟨g,0,none⟩) (a6.length+1) cap,.int .u8 ((a7 ||| ms:Nat):Int)] 133)) (.slice (some ⟨g,0,none⟩) (a6.length+1) cap) (.int .u8 ((a7 ||| ms:Nat):Int)) (a6++[s],a7 ||| ms):=⟨(C1.out.kept (q34 w2 _ none) (by simp)).mono (q5m _) (q34 w2 _ none).size,rfl,λa n c e=>by cases e;exact C0.out⟩
                 have g9:=jF.push m5 t4.out (λi p x e1 e2=>(t3.out i p x e1 e2).kept d6) h6 d8 (g7.app m5 h6);have t2:=q1D g9;have g6:=q1D e8;have C3:=q1D b6;have C7:=q1D h9;clear d8 a8 h9 q7 h6 d6 e8 b6 s3 m5 g7 g9;refine hK.out _ _ (by first | exact Z | exact s7 | exact s2 | exact⟨(q34 _ _ none).cell Z.1 (by simp),(q34 _ _ none).cell Z.2 (by simp)⟩) (λZ=>?_);clear hK K;try go_frame
                 refine⟨by kernel_rfl,?_⟩;simp only[qbh,qbH];clear s0 p7 p6 s2 s7 Z;go_wp2;refine⟨⟨j+1,by simp,by omega,g5.out.andThen g6.out (λi e=>.inl (c8.out.lt i e).1),C3.out,λi e=>?_,?_⟩,by simp[qb2];omega⟩
                 ·obtain rfl:g'=i:=by simpa[qak] using e
                  rcases C7.out with h | h
                  ·exact e7.out _ h
                  ·have:=d7.out.size
                   omega
                 ·rw[t7.out,if_pos b7.out,qc5,<- qc1,B8.out,show List.map (Qo (a6,a7)) [s]=[Qo (a6,a7) s] from rfl,x8.out]
                  exact t2.out
                exact qm.nil
               exact qm.nil
              exact qm.nil
             exact qm.nil
            exact qm.nil
           ·have z0:(((a7 &&& ms:Nat):Int) != 0)=true:=by simpa using hz
            have hok:okF (a6,a7) s=false:=by rw[a9.out];simpa using hz
            have b7:=q1D hok;have d5:=n8.out;clear hz hok;go_upto_region 25 with(fail)
            go_quiet (first | (go_at_call 123;refine qc4 ((e4.out _ (qi _ _ none)).mono (λe w5 h=>⟨h.1,h.2.symm⟩))));go_wp2;exact⟨⟨j+1,by simp,by omega,g5.out.trans (qi _ _ none),e6.out,e7.out,m6.out b7.out _ (qi _ _ none)⟩,by simp[qb2];omega⟩
         ·obtain rfl:j=S.length:=by omega
          have S7:¬ (S.length:Int)<(S.length:Int):=by omega
          clear l7;go_wp2;refine⟨⟨k+1,by simp,by omega,λq hq=>?_,g5.out,?_⟩,by simp[qb2];omega⟩
          ·rw[qbc,p5.out] at hq
           rcases qcz.1 hq with h | h
           ·exact C4.out q h
           ·simp at h
            subst h;exact P4.out
          ·rw[q50 p5.out]
           have:=n6.out;rw[qcc] at this;exact this
      ·obtain rfl:k=recs.length:=by omega
       have hnt:(recs.find? λp=>p.2 == al)=none:=List.find?_eq_none.2 λp hp=>by have:=C4.out p (by rw[qcc];exact hp);simpa using this
       have c3:=x7.out;rw[hnt] at c3;have E6:(jq S recs).length<=1000:=by
        refine qbw λh=>?_;simp only[if_neg h] at c3;cases c3
       simp only[if_pos E6] at c3;have hne:jq S recs≠[]:=λh=>by
        rw[if_pos h] at c3;cases c3
       rw[if_neg hne] at c3;have l6:=v6.out;rw[qcc] at l6;have G1:∀W v,Q7 W v (jq S recs)->FewP S al R v W n:=λW v hr=>by
        refine⟨_,hr,⟨E6,λq hq=>?_⟩,λq hq=>?_,c3⟩
        ·obtain⟨p,hp,s,hs,rfl⟩:=q04 hq
         have h1:=(s6.out.2 p hp)
         have h2:=B9.out p hp;have h3:=Qh s 5 λy hy=>by have:=(v3.out s hs).2 y hy;omega
         refine⟨λr hr=>?_,Nat.or_lt_two_pow (n:=5) h1.2.1 h3,by simp[Qo];omega⟩;rcases qcz.1 hr with h | h
         ·exact h1.1 r h
         ·rw[List.mem_singleton.1 h];exact hs
        ·obtain⟨p,hp,s,hs,rfl⟩:=q04 hq
         have h2:=B9.out p hp;simp[Qo];omega
       have E1:=G1 wr u11 l6.recs;obtain⟨xb,xc,hx,-⟩:=l6.recs;have hxl:(jq S recs).length≠0:=λh=>hne (qbo h);generalize (jq S recs).length=xl at hx hxl;subst hx;have L2:=q1D E1;have S2:((xl:Int) == 0)=false:=by rw[beq_eq_false_iff_ne];omega
       clear E1 G1 c3 l6 hne;go_wp2;exact⟨⟨⟨n,by omega,L2.out⟩,HG.out.trans t5.out⟩,Nat.lt_of_le_of_lt (q2r (by omega) L2.out) (by rw[<- P6.out];omega)⟩
end Go.Proofs.YtidgnkmjgioapaaGreat
end
section
namespace Go.Proofs.YtidgnkmjgioapaaGreat
open Go Go.RowKit Go.Co
theorem yG{n:Int}(h:0<=n/\n<=30):YOk (z8 n) 6:=⟨by simp[z8],λp hp=>by
 simp only[z8,qbx,qc2,or_false] at hp;rcases hp with rfl | rfl | rfl | rfl<;>(dsimp only;omega),by omega,by omega⟩
theorem kZ(n:Int):(z8 n).length=4:=rfl
theorem q26(n:Int):∀(x:List Int),(∀y∈x,0<=y/\y<4)->∀a:Int,(x.map (ZC (z8 n))).foldl (·+·) a=a+(2*(x.count 0:Int)+2*(x.count 1:Int)+(x.count 2:Int)+(x.count 3:Int))
 | [],_,a=>by simp
 | y::t,h,a=>by
  have ih:=q26 n t (λz hz=>h z (by simp[hz]));have hy:=h y (by simp);simp only[List.map_cons,List.foldl_cons];rw[ih];obtain rfl | rfl | rfl | rfl:y=0\/y=1\/y=2\/y=3:=by omega
  all_goals simp[List.count_cons,ZC,z8];try omega
theorem Zs{x:List Int}(h:x.Nodup)(a:Int):x.count a<=1:=by
 induction x with
 | nil=>simp
 | cons y t ih =>
  rw[List.nodup_cons] at h;rw[List.count_cons];by_cases e:y=a
  ·subst e
   have:=List.count_eq_zero.2 h.1;simp[this]
  ·simp[e]
   exact ih h.2
theorem JH{n:Int}(x:List Int)(hn:x.Nodup)(hx:∀y∈x,0<=y/\y<(z8 n).length):POk (z8 n) 6 x:=by
 have h4:∀y∈x,0<=y/\y<4:=λy hy=>by have:=hx y hy;rw[kZ] at this;omega
 have hs:=q26 n x h4 0;have c0:=Zs hn 0;have c1:=Zs hn 1;have c2:=Zs hn 2;have c3:=Zs hn 3;refine⟨hx,hn,?_,?_⟩
 ·unfold zj
  rw[hs];omega
 ·have key:∀(x:List Int),(∀y∈x,0<=y/\y<4)->x.length=x.count 0+x.count 1+x.count 2+x.count 3:=by
   intro x;induction x with
   | nil=>simp
   | cons y t ih =>
    intro h;have:=ih (λz hz=>h z (by simp[hz]));have hy:=h y (by simp);obtain rfl | rfl | rfl | rfl:y=0\/y=1\/y=2\/y=3:=by omega
    all_goals simp[List.count_cons];omega
  have:=key x h4;omega
theorem JC(n:Int):POk (z8 n) 6 [0,1,2]:=JH _ (by decide) (by simp[kZ])
theorem pile210(n:Int):POk (z8 n) 6 [2,1,0]:=JH _ (by decide) (by simp[kZ])
theorem qah:yy (z8 12) [0,1,2]=[(6,9),(2,3),(0,0)]:=by kernel_rfl
theorem q7z:Qa (z8 8) [0,1,2]=3:=by kernel_rfl
theorem qag:QN (z8 8) [0,1,2]=.tuple #[.agg #[.int .i64 (-1),.int .i64 2],.int .i64 0]:=by kernel_rfl
theorem ex_mend:q03 (z8 12) 6 3 10 [zO [2,1,0]] [zO [2,1,0]] 0=some (some (3,[0,1,2])):=by kernel_rfl
theorem ex_most:(jr (z8 12) 6 (zN (qQ (z8 12).length) 0)).2=[0,1,2]:=by kernel_rfl
theorem q7B:vA (z8 8) (zN (qQ (z8 8).length) 0)=[[0],[1],[2],[3],[0,1],[0,2],[0,3],[1,2],[1,3]]:=by kernel_rfl
def exS:List (List Int):=[[0],[1],[2],[3],[0,1],[0,2],[0,3],[1,2],[1,3]]
theorem ex_few:fewS 10 (zE exS.length exS) (zq (qQ (z8 8).length)) [([],0)]=some (some [[0,2],[1,3]]):=by kernel_rfl
theorem q7A:∀s∈zE exS.length exS,s≠[]/\∀x∈s,0<=x/\x<5:=by decide
def YO(ps:List Par)(l wl:List Int):Bool:=(qa4 (casN ps wl)).any λi=>qw ps (ovr (Kr ps wl i) (pre Par.mn ps ps.length) wl wl.length) l && !qw ps (ovr (Kr ps wl i) (pre Par.mx ps ps.length) wl wl.length) l
theorem q3y(ps:List Par)(l wl:List Int):YO ps l wl=true↔ZT ps l wl:=by
 unfold YO ZT;rw[List.any_eq_true];constructor
 ·rintro⟨i,h1,h2⟩
  exact⟨i,qcn.1 h1,h2⟩
 ·rintro⟨i,h1,h2⟩
  exact⟨i,qcn.2 h1,h2⟩
theorem q8y(ps:List Par)(l c:List Int):yT ps l c=!YO ps l c:=q29 (q3y ps l c)
theorem qaf:j6 (yT (z8 8) [0,1,2]) (zN [0,1,2] 0) []=(true,[1,2]):=by
 have e:yT (z8 8) [0,1,2]=λc=>!YO (z8 8) [0,1,2] c:=funext λc=>q8y _ _ _;have h:j6 (λc=>!YO (z8 8) [0,1,2] c) (zN [0,1,2] 0) []=(true,[1,2]):=by kernel_rfl
 exact(congrArg (λp=>j6 p (zN [0,1,2] 0) []) e).trans h
end Go.Proofs.YtidgnkmjgioapaaGreat
end
section
namespace Go.Proofs.YtidgnkmjgioapaaGreat
open Go.RowKit
theorem yn(n:Int)(w:q3g):qaD Tryp.prog 80 #[.int .i64 n] w λe w'=>∃v,e=.returned (.agg #[v,.int .i64 6])/\w.grownBy w' none/\qr w.heap.size w'.heap.size w' v (z8 n)/\∀(ad:qb9) (m c:Nat),v=.slice (some ad) m c->∃cs e f,w'.heap[ad.block]?=some (.cells cs e f)/\∀(i:Nat) u,cs[i]?=some u->∃k m,u=.int k m:=by
 obtain⟨A,hA⟩:∃A,A=w.heap.size:=⟨_,rfl⟩
 obtain⟨w1,Z⟩:∃w1,w1=w.alloc (.cells #[.slice none 0 0,.int .i64 0] 24):=⟨_,rfl⟩
 have hR:w1.heap[A]?=some (.cells #[.slice none 0 0,.int .i64 0] 24 (0,0)):=by rw[Z,hA];exact q7j w _
 have hG:w.grownBy w1 none:=by rw[Z];exact q34 _ _ none
 have HA:=q1D hA;have b7:=q1D Z;have HR:=q1D hR;have HG:=q1D hG;clear hA Z hR hG;go_enter Tryp.func80,Tryz.ntmps80;go_upto_region 1 with(fail)
 rw[<- HA.out,show w.alloc (.cells #[.slice none 0 0,.int .i64 0] 24)=w1 from b7.out.symm];have HT:=q1D (q8j w1 none);have s0:=qa (o:=0) HR.out rfl;have s1:=qa (o:=1) HR.out rfl;have f0:=qn (o:=0) HR.out;have f1:=qn (o:=1) HR.out;have b6:=(q45.1 HR.out).1;go_wp2_with (first
  | (go_at_call 39;go_must (refine(q4F _ _ _ _ _).mono ?_);rintro e w2 ⟨rfl,hg⟩;replace HT:=q1D (HT.out.trans hg);replace s0:=qa (o:=0) (blk HT.out (by simp) HR.out) rfl;replace s1:=qa (o:=1) (blk HT.out (by simp) HR.out) rfl;replace f0:=qn (o:=0) (blk HT.out (by simp) HR.out);replace f1:=qn (o:=1) (blk HT.out (by simp) HR.out);replace b6:=(q45.1 (blk HT.out (by simp) HR.out)).1;clear hg))
 obtain⟨cs,hcs⟩:∃cs:Array q58,cs=#[.int .i64 8,.int .i64 10,.int .i64 n,.int .i64 2,.int .i64 4,.int .i64 6,.int .i64 6,.int .i64 2,.int .i64 2,.int .i64 3,.int .i64 3,.int .i64 1,.int .i64 5,.int .i64 5,.int .i64 0,.int .i64 1]:=⟨_,rfl⟩
 obtain⟨W,a6⟩:∃W,W=((w2.setCell ⟨A,0,none⟩ (.slice (some ⟨w2.heap.size,0,none⟩) 4 4)).setCell ⟨A,1,none⟩ (.int .i64 6)).alloc (.cells cs 28):=⟨_,rfl⟩
 have hz:((w2.setCell ⟨A,0,none⟩ (.slice (some ⟨w2.heap.size,0,none⟩) 4 4)).setCell ⟨A,1,none⟩ (.int .i64 6)).heap.size=w2.heap.size:=by simp[qci]
 have a9:W.heap[A]?=some (.cells #[.slice (some ⟨w2.heap.size,0,none⟩) 4 4,.int .i64 6] 24 (0,0)):=by rw[a6];exact qp (by rw[qh (qh (blk HT.out (by simp) HR.out))];rfl)
 have a7:W.heap[w2.heap.size]?=some (.cells cs 28 (0,0)):=by
  have:=q7j ((w2.setCell ⟨A,0,none⟩ (.slice (some ⟨w2.heap.size,0,none⟩) 4 4)).setCell ⟨A,1,none⟩ (.int .i64 6)) (.cells cs 28);rw[hz,<- a6] at this;exact this
 have hA:=HA.out;have b0:w.grownBy W none:=((HG.out.trans HT.out).andThen (row':=some A) ((qg _ _ _ _).trans (qg _ _ _ _)) (by rintro j e;cases e;exact .inl (by omega))).trans (by rw[a6];exact q34 _ _ _);have hsz:=(HG.out.trans HT.out).size;have a8:w2.heap.size<W.heap.size:=(q45.1 a7).1;rw[<- hcs,<- a6];refine qcG (v:=.agg #[.slice (some ⟨w2.heap.size,0,none⟩) 4 4,.int .i64 6]) (by simp[results,Tryz.results80,go_sem,qal,a9]) rfl ⟨_,rfl,b0,⟨some ⟨w2.heap.size,0,none⟩,4,rfl,by simp[z8],λ_=>⟨w2.heap.size,0,cs,_,rfl,hsz,a8,a7,λi hi=>?_⟩⟩,λad m c e=>?_⟩;rotate_left
 ·cases e
  refine⟨cs,_,_,a7,λi u hu=>?_⟩;rw[hcs] at hu;have hm:=qby hu;simp only[qde,qbx,qc2,or_false] at hm;rcases hm with h | h | h | h | h | h | h | h | h | h | h | h | h | h | h | h<;>exact⟨_,_,h⟩
 obtain rfl | rfl | rfl | rfl:i=0\/i=1\/i=2\/i=3:=by simp[z8] at hi;omega
 all_goals
  rw[hcs];exact⟨_,rfl,rfl,rfl,rfl,rfl⟩
end Go.Proofs.YtidgnkmjgioapaaGreat
end
section
namespace Go.Proofs.YtidgnkmjgioapaaGreat
open Go Go.RowKit Go.Co Go.Sim Go.Conc Go.ConcN
theorem Zj{w:q3g}{B:Nat}{cs:Array q58}{fr:Nat × Nat}(l:List Int)(h:w.heap[B]?=some (.cells cs 3 fr))(hc:cs=(l.map (q9q .i64)).toArray)(hl:(l.length:Int)<=1000000):qe 0 w.heap.size w (.slice (some ⟨B,0,none⟩) l.length l.length) l :=
 ⟨_,_,rfl,hl,λ_=>⟨B,0,cs,fr,rfl,qa8 _,qy h,h,λi hi=>by rw[hc];simp[hi]⟩⟩
theorem jE(w:q3g){cs:Array q58}(l:List Int)(hc:cs=(l.map (q9q .i64)).toArray)(hl:(l.length:Int)<=1000000):qe 0 (w.alloc (.cells cs 3)).heap.size (w.alloc (.cells cs 3)) (.slice (some ⟨w.heap.size,0,none⟩) l.length l.length) l:=Zj l (q7j w _) hc hl
theorem qe.kn{w u:q3g}{T:Nat->qc7->Nat}{v:q58}{l:List Int}(h:qe 0 w.heap.size w v l)(hg:(w.tp T).grownBy u none):qe 0 u.heap.size u v l:=(qe.kept (w:=w.tp T) h hg (by simp)).mono (q5m _) hg.size
theorem qM.kn{w u:q3g}{T:Nat->qc7->Nat}{v:q58}{l:List (Int × Int)}(h:qM 0 w.heap.size w v l)(hg:(w.tp T).grownBy u none):qM 0 u.heap.size u v l:=(qM.kept (w:=w.tp T) h hg (by simp)).mono (q5m _) hg.size
theorem RowsIn.kn{w u:q3g}{T:Nat->qc7->Nat}{v:q58}{l:List (List Int)}(h:RowsIn 0 w.heap.size w v l)(hg:(w.tp T).grownBy u none):RowsIn 0 u.heap.size u v l:=(RowsIn.kept (w:=w.tp T) h hg (by simp)).mono (q5m _) hg.size
theorem q6o{ps:List Par}{m:Nat}(hm:1<=m)(hk:∀p∈ps,kOf p<=m):∀(wl:List Int) (L:List (Nat->Int)),(wl.foldl (kR ps) L).length<=L.length*m ^ wl.length
 | [],L=>by simp
 | x::wl,L=>by
  have ih:=q6o hm hk wl (kR ps L x);have h1:(kR ps L x).length<=L.length*m:=by
   unfold kR;split
   ·rename_i p hp
    rw[vp];exact Nat.mul_le_mul_left _ (hk p (q8z hp))
   ·exact Nat.le_mul_of_pos_right _ hm
  rw[List.foldl_cons,q8l,Nat.pow_succ];refine q87 ih (q87 (Nat.mul_le_mul_right _ h1) ?_);rw[Nat.mul_assoc,Nat.mul_comm m];exact q5m _
theorem dbOk_of{ps:List Par}{lim:Int}(h:YOk ps lim){l wl:List Int}(hl:∀y∈l,0<=y/\y<ps.length)(ll:l.length<=1000)(hwl:∀y∈wl,0<=y/\y<ps.length)(w5:wl.length<=5):DbOk ps l wl:=by
 refine⟨h.len,λp hp=>?_,hl,ll,hwl,by omega,λj hj=>?_⟩
 ·have:=h.each p hp
  omega
 ·have h1:=q6o (ps:=ps) (m:=12) (by omega) (λp hp=>by have:=h.each p hp;unfold kOf;omega) (wl.take j) [λ_=>0]
  have h2:12 ^ (wl.take j).length<=12 ^ 5:=Nat.pow_le_pow_right (by omega) (by rw[qcD];omega);unfold yN;simp only[q8l,q9k,q9m,Nat.one_mul] at h1;omega
theorem q7h{w:q3g}{B:Nat}{cs:Array q58}{fr:Nat × Nat}(h:w.heap[B]?=some (.cells cs 26 fr))(hc:cs=#[.int .i64 6,.int .i64 9,.int .i64 2,.int .i64 3,.int .i64 0,.int .i64 0]):qM 0 w.heap.size w (.slice (some ⟨B,0,none⟩) 3 3) [(6,9),(2,3),(0,0)]:=by
 refine⟨_,_,rfl,by decide,λ_=>⟨B,0,cs,fr,rfl,qa8 _,qy h,h,λi hi=>?_⟩⟩;subst hc;have hi:i<3:=hi;obtain rfl | rfl | rfl:i=0\/i=1\/i=2:=by omega
 all_goals exact⟨_,rfl,rfl,rfl⟩
theorem q9C{w:q3g}{B A1 A2:Nat}{fr:Nat × Nat}(h:w.heap[B]?=some (.cells #[.slice (some ⟨A1,0,none⟩) 2 2,.slice (some ⟨A2,0,none⟩) 2 2] 29 fr))(h1:qe 0 w.heap.size w (.slice (some ⟨A1,0,none⟩) 2 2) [0,2])(h2:qe 0 w.heap.size w (.slice (some ⟨A2,0,none⟩) 2 2) [1,3]):RowsIn 0 w.heap.size w (.slice (some ⟨B,0,none⟩) 2 2) [[0,2],[1,3]]:=by
 refine⟨_,_,rfl,by decide,λ_=>⟨B,0,_,fr,rfl,qa8 _,qy h,h,λi hi=>?_⟩⟩;have hi:i<2:=hi;obtain rfl | rfl:i=0\/i=1:=by omega
 ·exact⟨_,_,rfl,rfl,h1⟩
 ·exact⟨_,_,rfl,rfl,h2⟩
theorem q5q(w:q3g):RowsIn 0 (((w.alloc (.cells #[.int .i64 0,.int .i64 2] 3)).alloc (.cells #[.int .i64 1,.int .i64 3] 3)).alloc (.cells #[.slice (some ⟨w.heap.size,0,none⟩) 2 2,.slice (some ⟨w.heap.size+1,0,none⟩) 2 2] 29)).heap.size
  (((w.alloc (.cells #[.int .i64 0,.int .i64 2] 3)).alloc (.cells #[.int .i64 1,.int .i64 3] 3)).alloc (.cells #[.slice (some ⟨w.heap.size,0,none⟩) 2 2,.slice (some ⟨w.heap.size+1,0,none⟩) 2 2] 29)) (.slice (some ⟨w.heap.size+2,0,none⟩) 2 2) [[0,2],[1,3]]:=by
 refine q9C (A1:=w.heap.size) (A2:=w.heap.size+1) (fr:=(0,0)) ?_ ?_ ?_
 ·have h:=q7j ((w.alloc (.cells #[.int .i64 0,.int .i64 2] 3)).alloc (.cells #[.int .i64 1,.int .i64 3] 3)) (.cells #[.slice (some ⟨w.heap.size,0,none⟩) 2 2,.slice (some ⟨w.heap.size+1,0,none⟩) 2 2] 29)
  rw[q8f,q8f] at h;exact h
 ·exact Zj [0,2] (qp (qp (q7j w _))) rfl (by decide)
 ·have h:=q7j (w.alloc (.cells #[.int .i64 0,.int .i64 2] 3)) (.cells #[.int .i64 1,.int .i64 3] 3)
  rw[q8f] at h;exact Zj [1,3] (qp h) rfl (by decide)
theorem yB[JunkSet]{f:qbe}{Post:q58->q3g->Prop}{W:q3g}{g:q5r}{w:q3g}(F:q3g->Prop)(hF:F w)(h:∀u,F u->EL Tryp.prog q8v f Post W g u):EL Tryp.prog q8v f Post W g w:=h w hF
section
variable[J:JunkSet]{f:qbe}{Post:q58->q3g->Prop}{W:q3g}
theorem el23(D:Two Tryp.prog q8v)(hok:JunkSet.okf 137)(k0:∀i,¬ JunkSet.jk i)(hin:Tryp.prog.inits.idxOf? f=none)(hfs:∃g,Tryp.prog.funcs[f]?=some g/\Tryz.prog.funcs[f]?=some g)
  {wq:q3g} (h0:qU wq 0) :
  EC Tryp.prog q8v f Post W 23 #[] wq λv u=>v=.bool true/\(wq.tp u.tape).grownBy u none:=by
 have hs:Tryp.prog.funcs[(q9v 23).fn]?=Tryz.prog.funcs[(q9v 23).fn]?:=zd 23 (by decide);refine EC.of_body1 D (fn:=Tryz.f23) (c0:=Tryz.f23.body.getD .skip) (t:=0) Tryp.func23 Tryz.func23 (by kernel_rfl) rfl λcs hb b0=>?_;have HR:=q1D b0;clear b0;simp only[Tryz.f23,q88];walk_nrm;refine EL.seq D hb hs ?_;refine EL.piece D hb hs λT=>?_;go_wp2;refine EL.tape (wq:=wq) ?_ T;refine EL.seq D hb hs ?_;refine EL.piece D hb hs λT=>?_;go_wp2_with (first
  | (go_at_call 80;refine(yn 12 _).mono ?_;rintro e w2 ⟨v2,rfl,hg2,Z,a6⟩;have G2:=q1D hg2;have P2:=q1D Z;have I2:=q1D a6;obtain⟨yb,yc,rfl,-,-⟩:=Z.cell;clear hg2 Z a6)
  | (go_at_call 35;refine(q7g 0 _ _ _ (z8 12) 6 [0,1,2] _ ((P2.out.kept (q34 _ _ none) (by simp)).mono (qa8 _) (by rw[q8f];omega)) (jE _ [0,1,2] rfl (by decide)) (q5m _) (yG (by omega)) (JC 12)).mono ?_;rintro e w3 ⟨v3,rfl,a7,b8⟩;rw[qah] at b8;have G3:=q1D a7;have B3:=q1D b8;clear a7 b8))
 have ga:=G2.out.trans ((q34 _ _ none).trans G3.out);refine yB (λu=>(wq.tp u.tape).grownBy u none/\qM 0 u.heap.size u v3 [(6,9),(2,3),(0,0)]) ⟨tpg ga,B3.out.mono (qa8 _) (q5m _)⟩ λu1 hF=>?_;obtain⟨g1,bA⟩:=hF;clear ga B3 G3 G2 P2 I2;refine EL.seq D hb hs ?_;refine EL.piece D hb hs λT=>?_;go_wp2_with (first
  | (go_at_call 80;refine(yn 8 _).mono ?_;rintro e w2 ⟨v2,rfl,hg2,Z,a6⟩;have G2:=q1D hg2;have P2:=q1D Z;have I2:=q1D a6;obtain⟨yb,yc,rfl,-,-⟩:=Z.cell;clear hg2 Z a6)
  | (go_at_call 37;refine(KF 0 _ _ _ (z8 8) 6 [0,1,2] _ ((P2.out.kept (q34 _ _ none) (by simp)).mono (qa8 _) (by rw[q8f];omega)) (jE _ [0,1,2] rfl (by decide)) (q5m _) (yG (by omega)) (JC 8)).mono ?_;rintro e w3 ⟨rfl,a7⟩;rw[q7z];have G3:=q1D a7;clear a7))
 have ga:=G2.out.trans ((q34 _ _ none).trans G3.out);refine yB (λu=>(wq.tp u.tape).grownBy u none/\qM 0 u.heap.size u v3 [(6,9),(2,3),(0,0)]) ⟨gb g1 (tpg ga),bA.kn ga⟩ λu2 hF=>?_;obtain⟨g2,h8⟩:=hF;clear ga G3 G2 P2 I2 g1 bA;refine EL.seq D hb hs ?_;refine EL.piece D hb hs λT=>?_;go_wp2_with (first
  | (go_at_call 80;refine(yn 8 _).mono ?_;rintro e w2 ⟨v2,rfl,hg2,Z,a6⟩;have G2:=q1D hg2;have P2:=q1D Z;have I2:=q1D a6;obtain⟨yb,yc,rfl,-,-⟩:=Z.cell;clear hg2 Z a6)
  | (go_at_call 36;refine(q70 0 _ _ _ (z8 8) 6 [0,1,2] _ ((P2.out.kept (q34 _ _ none) (by simp)).mono (qa8 _) (by rw[q8f];omega)) (jE _ [0,1,2] rfl (by decide)) (q5m _) (yG (by omega)) (JC 8)).mono ?_;rintro e w3 ⟨rfl,a7⟩;rw[qag];have G3:=q1D a7;clear a7))
 obtain⟨X,hX⟩:∃X,X=w3.heap.size:=⟨_,rfl⟩
 rw[<- hX];have ga:=(G2.out.trans ((q34 _ _ none).trans G3.out)).trans (q34 w3 (.cells #[.int .i64 (-1),.int .i64 2] 26) none);refine yB (λu=>(wq.tp u.tape).grownBy u none/\qM 0 u.heap.size u v3 [(6,9),(2,3),(0,0)]/\u.heap[X]?=some (.cells #[.int .i64 (-1),.int .i64 2] 26 (0,0))) ⟨gb g2 (tpg ga),h8.kn ga,by rw[hX];exact q7j _ _⟩ λu3 hF=>?_;obtain⟨g3,e9,x3⟩:=hF;clear ga G3 G2 P2 I2 g2 h8 hX;refine EL.seq D hb hs ?_;refine EL.region D hb hs ?_;simp only[qa0,q8l,q9k,q9F,q9m,qa4,qb6];refine EL.list D hb hs [0,1] [_,_] (rest:=[2,3,4,5,6,7]) rfl λT=>?_;go_wp2_with (first
  | (go_at_call 80;refine(yn 8 _).mono ?_;rintro e w2 ⟨v2,rfl,hg2,Z,a6⟩;have G2:=q1D hg2;have P2:=q1D Z;have I2:=q1D a6;obtain⟨yb,yc,rfl,-,-⟩:=Z.cell;clear hg2 Z a6))
 obtain⟨B,hB⟩:∃B,B=w2.heap.size:=⟨_,rfl⟩
 rw[<- hB];have ga:=G2.out.trans (q34 w2 (.cells #[.int .i64 0,.int .i64 1,.int .i64 2] 3) none);have b7:(w2.alloc (.cells #[.int .i64 0,.int .i64 1,.int .i64 2] 3)).heap[B]?=some (.cells #[.int .i64 0,.int .i64 1,.int .i64 2] 3 (0,0)):=by rw[hB];exact q7j _ _
 refine yB (λu=>((wq.tp u.tape).grownBy u none/\qM 0 u.heap.size u v3 [(6,9),(2,3),(0,0)]/\u.heap[X]?=some (.cells #[.int .i64 (-1),.int .i64 2] 26 (0,0)))/\qr 0 u.heap.size u (.slice yb (z8 8).length yc) (z8 8)/\qN u (.slice yb (z8 8).length yc)/\qe 0 u.heap.size u (.slice (some ⟨B,0,none⟩) ([0,1,2]:List Int).length 3) [0,1,2]/\qN u (.slice (some ⟨B,0,none⟩) ([0,1,2]:List Int).length 3))
  ⟨⟨gb g3 (tpg ga),e9.kn ga,blk ga (by simp) x3⟩,(P2.out.kept (q34 _ _ none) (by simp)).mono (qa8 _) (by rw[q8f];omega),λad n c e=>by
   obtain⟨cs,e1,f1,h1,h2⟩:=I2.out ad n c e;exact⟨cs,e1,f1,qp h1,h2⟩,Zj [0,1,2] b7 rfl (by decide),λad n c e=>by
   cases e;refine⟨_,_,_,b7,λi u hu=>?_⟩;have hm:=qby hu;simp only[qde,qbx,qc2,or_false] at hm;rcases hm with h | h | h<;>exact⟨_,_,h⟩⟩ λu4 hF=>?_
 obtain⟨⟨g4,e8,x4⟩,p4,b9,i4,c3⟩:=hF;clear ga b7 hB G2 P2 I2 g3 e9 x3;refine EL.enter D hb hs (fk:=29) (args:=#[.agg #[.slice yb (z8 8).length yc,.int .i64 6],.slice (some ⟨B,0,none⟩) 3 3]) rfl rfl (λT=>by rw[run_call_body (f:=29) rfl Tryp.func29 (by kernel_rfl) rfl];walk_nrm) (zd 29 (by decide)) ?_;refine el29 D hok k0 hin hfs (ws:=[0,1,2]) (l:=[0,1,2]) (by decide) (λc hc hl=>dbOk_of (yG (by omega)) (by simp[kZ]) (by decide) (λy hy=>by have:=hc y hy;simp at this;rw[kZ];omega) (by simp at hl;omega)) (xM (by decide) (by decide)) (yG (by omega)) (JC 8) p4 b9 i4 c3 ?_ _ cs hb hs λv u hR=>?_
 ·obtain⟨cs,e,g,h0,k5⟩:=h0
  exact⟨cs,e,g,blk (w:=wq.tp u4.tape) g4 (by simp) h0,k5⟩
 obtain⟨o,s,rfl,⟨bo,b6⟩,a9,c9⟩:=hR;rw[qaf] at b6;obtain⟨rfl,rfl⟩:=Prod.mk.inj b6;have g5:=gb g4 a9;have e7:=e8.kn a9;have x5:=blk (w:=u4.tp u.tape) a9 (by simp) x4;clear g4 e8 x4 p4 b9 i4 c3 b6 a9;rw[qcr];walk_nrm;refine EL.list D hb hs [3,4,5,6,7] [_,_,_,_,_] (rest:=[]) rfl λT=>?_;go_wp2;refine EL.tape (wq:=u) ?_ T;refine EL.region_end D hb hs ?_;refine EL.seq D hb hs ?_;refine EL.piece D hb hs λT=>?_;go_wp2_with (first
  | (go_at_call 80;refine(yn 12 _).mono ?_;rintro e w2 ⟨v2,rfl,hg2,Z,a6⟩;have G2:=q1D hg2;have P2:=q1D Z;have I2:=q1D a6;obtain⟨yb,yc,rfl,-,-⟩:=Z.cell;clear hg2 Z a6)
  | (go_at_call 54;refine(mend_ok _ _ (z8 12) 6 [2,1,0] _ ((P2.out.kept (q34 _ _ none) (by simp)).mono (qa8 _) (by rw[q8f];omega)) (jE _ [2,1,0] rfl (by decide)) (yG (by omega)) (pile210 12) 10 (by decide) (some (3,[0,1,2])) ex_mend).mono ?_;rintro e w3 ⟨a7,v7,rfl,c8⟩;have G3:=q1D a7;have I7:=q1D c8;clear a7 c8))
 have ga:=G2.out.trans ((q34 _ _ none).trans G3.out);refine yB (λq=>(wq.tp q.tape).grownBy q none/\qM 0 q.heap.size q v3 [(6,9),(2,3),(0,0)]/\q.heap[X]?=some (.cells #[.int .i64 (-1),.int .i64 2] 26 (0,0))/\qe 0 q.heap.size q s [1,2]/\qe 0 q.heap.size q v7 [0,1,2]) ⟨gb g5 (tpg ga),e7.kn ga,blk ga (by simp) x5,c9.kn ga,I7.out⟩ λu6 hF=>?_;obtain⟨g6,e6,x6,s6,m6⟩:=hF;clear ga G3 G2 P2 I2 I7 g5 e7 x5 c9;refine EL.seq D hb hs ?_;refine EL.piece D hb hs λT=>?_;go_wp2_with (first
  | (go_at_call 80;refine(yn 8 _).mono ?_;rintro e w2 ⟨v2,rfl,hg2,Z,a6⟩;have G2:=q1D hg2;have P2:=q1D Z;have I2:=q1D a6;obtain⟨yb,yc,rfl,-,-⟩:=Z.cell;clear hg2 Z a6)
  | (go_at_call 63;refine(q7v _ (z8 8) 6 _ (P2.out.mono (qa8 _) (q5m _)) (yG (by omega)) JH (by decide) (by decide) exS q7B.symm (by decide) (by decide) q7A 10 (by decide) [[0,2],[1,3]] ex_few).mono ?_;rintro e w3 ⟨v9,rfl,a7,a8⟩;have G3:=q1D a7;have R9:=q1D a8;clear a7 a8))
 have ga:=G2.out.trans G3.out;refine yB (λq=>(wq.tp q.tape).grownBy q none/\qM 0 q.heap.size q v3 [(6,9),(2,3),(0,0)]/\q.heap[X]?=some (.cells #[.int .i64 (-1),.int .i64 2] 26 (0,0))/\qe 0 q.heap.size q s [1,2]/\qe 0 q.heap.size q v7 [0,1,2]/\RowsIn 0 q.heap.size q v9 [[0,2],[1,3]]) ⟨gb g6 (tpg ga),e6.kn ga,blk ga (by simp) x6,s6.kn ga,m6.kn ga,R9.out⟩ λu7 hF=>?_;obtain⟨g7,e5,x7,s7,m7,r7⟩:=hF;clear ga G3 G2 P2 I2 R9 g6 e6 x6 s6 m6;refine EL.seq D hb hs ?_;refine EL.piece D hb hs λT=>?_;go_wp2_with (first
  | (go_at_call 80;refine(yn 12 _).mono ?_;rintro e w2 ⟨v2,rfl,hg2,Z,a6⟩;have G2:=q1D hg2;have P2:=q1D Z;have I2:=q1D a6;obtain⟨yb,yc,rfl,-,-⟩:=Z.cell;clear hg2 Z a6)
  | (go_at_call 44;refine(q31 _ (z8 12) 6 _ (P2.out.mono (qa8 _) (q5m _)) (yG (by omega))).mono ?_;rintro e w3 ⟨h9,rfl,a7,a8⟩;rw[ex_most] at a8;have G3:=q1D a7;have R9:=q1D a8;clear a7 a8))
 have ga:=G2.out.trans G3.out;refine yB (λq=>(wq.tp q.tape).grownBy q none/\qM 0 q.heap.size q v3 [(6,9),(2,3),(0,0)]/\q.heap[X]?=some (.cells #[.int .i64 (-1),.int .i64 2] 26 (0,0))/\qe 0 q.heap.size q s [1,2]/\qe 0 q.heap.size q v7 [0,1,2]/\RowsIn 0 q.heap.size q v9 [[0,2],[1,3]]/\qe 0 q.heap.size q h9 [0,1,2]) ⟨gb g7 (tpg ga),e5.kn ga,blk ga (by simp) x7,s7.kn ga,m7.kn ga,r7.kn ga,R9.out⟩ λu8 hF=>?_;obtain⟨g8,e4,x8,s8,m8,r8,o8⟩:=hF;clear ga G3 G2 P2 I2 R9 g7 e5 x7 s7 m7 r7;refine EL.seq D hb hs ?_;refine EL.piece D hb hs λT=>?_;have GA:=q1D (q8j (u8.tp T) none);have c0:=qa (w:=u8.tp T) x8 (o:=0) rfl;have c1:=qa (w:=u8.tp T) x8 (o:=1) rfl;have k7:=λ(w:q3g)=>qaB (-1) 2 (-1) 2 w;have k6:=YZ;go_wp2_with (fail);refine(Ki 0 _ 0 _ _ _ [(6,9),(2,3),(0,0)] [(6,9),(2,3),(0,0)] _ (qM.kept (w:=u8.tp T) e4 (q34 (u8.tp T) _ none) (by simp)) (q7h (q7j _ _) rfl)).mono ?_;rintro e wA ⟨rfl,d9⟩;have gA:=(q34 (u8.tp T) _ none).trans d9;have GA:=q1D gA;have S8:=q1D (s8.kn gA);have M8:=q1D (m8.kn gA);have R8:=q1D (r8.kn gA);have O8:=q1D (o8.kn gA);clear gA d9 c0 c1 s8 m8 r8 o8 e4;rw[decide_eq_true (show([(6,9),(2,3),(0,0)]:List (Int × Int))=[(6,9),(2,3),(0,0)] from rfl)];go_wp2_with (fail);refine(jX 0 _ 0 _ _ _ [1,2] [1,2] _ (S8.out.alloc _) (jE _ [1,2] rfl (by decide))).mono ?_;rintro e wB ⟨rfl,d8⟩;have gB:=(q34 wA _ none).trans d8;have GB:=q1D (GA.out.trans gB);have M9:=q1D (M8.out.kn (T:=wA.tape) gB);have R9:=q1D (R8.out.kn (T:=wA.tape) gB);have O9:=q1D (O8.out.kn (T:=wA.tape) gB);clear gB d8 GA S8 M8 R8 O8;rw[decide_eq_true (show([1,2]:List Int)=[1,2] from rfl)];go_wp2_with (fail);refine(jX 0 _ 0 _ _ _ [0,1,2] [0,1,2] _ (M9.out.alloc _) (jE _ [0,1,2] rfl (by decide))).mono ?_;rintro e wC ⟨rfl,d7⟩;have gC:=(q34 wB _ none).trans d7;have GC:=q1D (GB.out.trans gC);have RC:=q1D (R9.out.kn (T:=wB.tape) gC);have OC:=q1D (O9.out.kn (T:=wB.tape) gC);clear gC d7 GB M9 R9 O9;rw[decide_eq_true (show([0,1,2]:List Int)=[0,1,2] from rfl)];go_wp2_with (fail);refine(q1b 0 _ 0 _ _ _ [[0,2],[1,3]] [[0,2],[1,3]] _ (RC.out.kept ((q34 _ _ none).trans ((q34 _ _ none).trans (q34 _ _ none))) (by simp)) (q5q wC)).mono ?_;rintro e wD ⟨rfl,d6⟩;have gD:=((q34 wC _ none).trans ((q34 _ _ none).trans (q34 _ _ none))).trans d6;have GD:=q1D (GC.out.trans gD);have OD:=q1D (OC.out.kn (T:=wC.tape) gD);clear gD d6 GC RC OC;rw[decide_eq_true (show([[0,2],[1,3]]:List (List Int))=[[0,2],[1,3]] from rfl)];go_wp2_with (fail);refine(jX 0 _ 0 _ _ _ [0,1,2] [0,1,2] _ (OD.out.alloc _) (jE _ [0,1,2] rfl (by decide))).mono ?_;rintro e wE ⟨rfl,d5⟩;have gE:=GD.out.trans ((q34 wD _ none).trans d5);have GE:=q1D gE;clear gE d5 GD OD;rw[decide_eq_true (show([0,1,2]:List Int)=[0,1,2] from rfl)];go_wp2;refine yB (λq=>(wq.tp q.tape).grownBy q none) (gb g8 (tpg GE.out)) λu9 g9=>?_;refine EL.retS D hb hs ?_;exact HR.out _ _ u9 ⟨rfl,g9⟩
end
end Go.Proofs.YtidgnkmjgioapaaGreat
end
section
namespace Go.Proofs.YtidgnkmjgioapaaGreat
open Go Go.RowKit Go.Co Go.Sim Go.Conc Go.ConcN
theorem YdOk.yok{n:Nat}{ps:List Par}{lim:Int}(h:YdOk n ps lim)(hn:n<=5):YOk ps lim:=⟨by have:=h.len;omega,λp hp=>by
 have:=h.each p hp;have h1:=this.a;have h2:=this.b;have h3:=this.c;have h4:=this.d;have h5:=this.e;have h6:=this.f;have h7:=this.g;have h8:=this.h;omega,by have:=h.l1;omega,by have:=h.l2;omega⟩
theorem q7k{f:qbe}{fn:Func}{c0:qcm}{args:Array q58}(hf:Tryp.prog.funcs[f]?=some fn)(Z:fn.body=some c0) :
  qan Tryp.prog f args .normal=(q9v f).at ⟨args++qb4 (fn.ntmps - args.size) q5s,[]⟩ [.code c0]:=by
 simp[qan,hf,Z,Frame.at,q9v]
section
variable[J:JunkSet]{Post:q58->q3g->Prop}{W:q3g}
end
end Go.Proofs.YtidgnkmjgioapaaGreat
end
section
namespace Go.Proofs.YtidgnkmjgioapaaGreat
open Go.RowKit
theorem q1x(lo hi:Nat)(v:q58)(l:List Int)(x:Int)(w:q3g)(hI:qe lo hi w v l) :
  qaD Tryp.prog 40 #[v,.int .i64 x] w λe w'=>∃r:Int,e=.returned (.int .i64 r)/\(r<0↔x∉l)/\w=w':=by
 obtain⟨base,cap,rfl,b7,hc⟩:=hI.cell;have HC:=q1D hc;clear hc;go_enter Tryp.func40,Tryz.ntmps40;go_wp2;go_loopw [5] (λiv wr=>∃k:Nat,iv=.int .i64 k/\k<=l.length/\(∀y∈l.take k,y≠x)/\wr=w) (λiv _=>(l.length - qb2 iv).toNat)
 case atStart=>exact⟨0,rfl,by omega,by simp,rfl⟩
 case round =>
  obtain⟨k,rfl,hk,a8,rfl⟩:=hrel;have b6:=q1D a8;clear a8;by_cases hlt:k<l.length
  ·obtain⟨B,o,rfl,c8,c3,b9,a9⟩:=HC.out (by intro e;rw[e] at hlt;simp at hlt)
   have hx:=a9 k hlt;obtain⟨y,Z⟩:∃y,l[k]?=some y:=⟨_,q7C hlt⟩
   rw[Z] at hx;simp only[q88] at hx;have b0:=q1D Z;have b8:(k:Int)<(l.length:Int):=by omega
   clear a9 Z;by_cases a7:y=x
   ·subst a7
    go_wp2;go_ret;exact⟨k,rfl,⟨λh=>by omega,λh=>absurd (q8z b0.out) h⟩,rfl⟩
   ·have a6:¬ y=x:=a7
    go_wp2;go_roundw
    case rel =>
     refine⟨k+1,by simp,by omega,λz hz=>?_,trivial⟩;rw[qbc,b0.out] at hz;rcases qcz.1 hz with hz | hz
     ·exact b6.out z hz
     ·obtain rfl:z=y:=by simpa using hz
      exact a6
    case measure=>simp[qb2];omega
  ·obtain rfl:k=l.length:=by omega
   go_wp2;go_ret;exact⟨-1,rfl,⟨λ_ h=>b6.out x (by simpa using h) rfl,λ_=>by omega⟩,rfl⟩
structure OnAt(w:q3g)(Bm Y Bp:Nat)(yb pb:Option qb9)(yc pc:Nat)(ps:List Par)(lim:Int)(l:List Int):Prop where
 m0:w.cell? ⟨Bm,0,none⟩=some (.int .u8 (zq l:Nat))
 y0:w.cell? ⟨Y,0,none⟩=some (.slice yb ps.length yc)
 y1:w.cell? ⟨Y,1,none⟩=some (.int .i64 lim)
 p0:w.cell? ⟨Bp,0,none⟩=some (.slice pb l.length pc)
 hP:qr 0 w.heap.size w (.slice yb ps.length yc) ps
 hI:qe 0 w.heap.size w (.slice pb l.length pc) l
 pl:l.length<=pc
end Go.Proofs.YtidgnkmjgioapaaGreat
end
section
namespace Go.Proofs.YtidgnkmjgioapaaGreat

end Go.Proofs.YtidgnkmjgioapaaGreat
end
section
namespace Go.Proofs.YtidgnkmjgioapaaGreat
open Go.RowKit
@[simp] theorem meth170(w:q3g):(method 355 170 (.agg #[]) "gladstone/pile.holds").run Tryp.prog w=.ok (241,.agg #[]) w:=by kernel_rfl
@[simp] theorem meth171(w:q3g):(method 355 171 (.agg #[]) "gladstone/pile.holds").run Tryp.prog w=.ok (242,.agg #[]) w:=by kernel_rfl
end Go.Proofs.YtidgnkmjgioapaaGreat
end
section
namespace Go.Proofs.YtidgnkmjgioapaaGreat
theorem q37{g g':Nat->Int}(hg:∀i,g i<=g' i)(l:List Int)(k:Nat):loadAt g l k<=loadAt g' l k:=by
 have ht:∀t:List Int,tot (t.map λx=>g x.toNat)<=tot (t.map λx=>g' x.toNat):=λt=>by
  induction t with
  | nil=>exact Int.le_refl _
  | cons a t ih=>simp only[List.map_cons,tot];have:=hg a.toNat;omega
 exact ht _
theorem q7c{ps:List Par}{g g':Nat->Int}(hg:∀i,g i<=g' i){l:List Int}{k:Nat}(h:Kg ps g' l k=true):Kg ps g l k=true:=by
 unfold Kg at h ⊢;split at h
 ·have:=q37 hg l k
  have:=of_decide_eq_true h;exact decide_eq_true (by omega)
 ·cases h
theorem JU{ps:List Par}{g:Nat->Int}{l:List Int}:qw ps g l=true↔∀k,k<l.length->Kg ps g l k=true:=by
 unfold qw;rw[qau];exact⟨λh k hk=>h k (qcn.2 hk),λh k hk=>h k (qcn.1 hk)⟩
theorem q0D{ps:List Par}{g g':Nat->Int}(hg:∀i,g i<=g' i){l:List Int}(h:qw ps g' l=true):qw ps g l=true :=
 JU.2 λk hk=>q7c hg (JU.1 h k hk)
theorem YOk.le{ps:List Par}{lim:Int}(h:YOk ps lim)(i:Nat):pre Par.mn ps ps.length i<=pre Par.mx ps ps.length i:=by
 unfold pre;split
 ·rename_i hi
  rw[q7C hi];have:=h.each _ (List.getElem_mem hi);simp only;omega
 ·omega
def kz(n:Nat):Nat->List (List Int)
 | 0=>[[]]
 | k+1=>(qa4 n).flatMap λ(i:Nat)=>(kz n k).map λl=>(i:Int)::l
def jD(l:List Int)(k:Nat):Bool:=(qa4 k).all λ(i:Nat)=>l.contains (i:Int)
def yX(n:Nat):List (List Int):=(kz n n).filter λl=>jD l n
theorem Yh:∀n,n<=5->yX n=yh (qQ n)
 | 0,_=>by kernel_rfl
 | 1,_=>by kernel_rfl
 | 2,_=>by kernel_rfl
 | 3,_=>by kernel_rfl
 | 4,_=>by kernel_rfl
 | 5,_=>by kernel_rfl
 | n+6,h=>by omega
theorem q9p:∀n,n<=5->(yh (qQ n)).all (λx=>x.isPerm (qQ n))=true
 | 0,_=>by kernel_rfl
 | 1,_=>by kernel_rfl
 | 2,_=>by kernel_rfl
 | 3,_=>by kernel_rfl
 | 4,_=>by kernel_rfl
 | 5,_=>by kernel_rfl
 | n+6,h=>by omega
theorem ord_is{n:Nat}(h:n<=5){x:List Int}(hx:x∈yh (qQ n)):x.Perm (qQ n):=List.isPerm_iff.1 (qau.1 (q9p n h) x hx)
theorem Jg{ps:List Par}{lim:Int}(hok:YOk ps lim){l:List Int}:jN ps lim l=true↔zj ps l<=lim/\Qa ps l=1:=by
 unfold jN Qa;rw[q9b,decide_eq_true_eq];refine and_congr_right λ_=>?_;have hm:=q0D (ps:=ps) (l:=l) hok.le;revert hm;cases qw ps (pre Par.mn ps ps.length) l<;>cases qw ps (pre Par.mx ps ps.length) l<;>simp[verd]
end Go.Proofs.YtidgnkmjgioapaaGreat
end
section
namespace Go.Proofs.YtidgnkmjgioapaaGreat
open Go Go.RowKit

end Go.Proofs.YtidgnkmjgioapaaGreat
end
section
namespace Go.Proofs.YtidgnkmjgioapaaGreat
open Go.RowKit

theorem Tryp.und36L:Tryp.prog.underlying 36=some (.slice 29):=by rw[Tryp.und];exact Tryz.underlying36
theorem Tryp.info29L:(Tryp.prog.info? 29).map (λi=>(i.zero,i.size,i.bytes))=some (some (.slice none 0 0),1,24):=by kernel_rfl
theorem qe.kept_own{lo hi base n:Nat}{e:q8u}{w w':q3g}{v x:q58}{l:List Int}{vs:List q58}(h:qe lo hi w x l)(ho:w.ownsRow base e 1 v n vs)(he:e≠3)(hg:w.grownBy w' v.ownBlock):qe lo hi w' x l:=by
 rcases ho.2 with⟨rfl,-⟩ | ⟨g,cap,cur,rfl,-,hg2,-⟩
 ·exact h.kept hg (by simp[qak])
 ·obtain⟨b,c,rfl,hl,hr⟩:=h
  refine⟨b,c,rfl,hl,λhne=>?_⟩;obtain⟨B,o,cs,fr,e1,e2,e3,e4,e5⟩:=hr hne;refine⟨B,o,cs,fr,e1,e2,e3,blk hg (λh=>?_) e4,e5⟩;simp[qak] at h;subst h;rw[e4] at hg2;cases hg2;exact he rfl
def qI(base:Nat)(w:q3g)(v:q58)(L:List (List Int)):Prop :=
 ∃vs:List q58,w.ownsRow base 29 1 v L.length vs/\∀(j:Nat) x l,vs[j]?=some x->L[j]?=some l->qe 0 w.heap.size w x l
theorem qI.kept{base:Nat}{w w':q3g}{v:q58}{L:List (List Int)}(h:qI base w v L)(hg:w.grownBy w' none):qI base w' v L:=by
 obtain⟨vs,h1,h2⟩:=h;exact⟨vs,q9o h1 hg,λj x l hx hl=>((h2 j x l hx hl).kept hg (by simp)).mono (q5m _) hg.size⟩
theorem qI.nil(base:Nat)(w:q3g):qI base w (.slice none 0 0) []:=⟨[],qcb _ _ _ _,λj x l hx=>by simp at hx⟩
theorem qI.low{base Z:Nat}{w:q3g}{v:q58}{L:List (List Int)}(h:qI base w v L)(hb:Z<=base):qI Z w v L:=by
 obtain⟨vs,h1,h2⟩:=h;exact⟨vs,Yf h1 hb,h2⟩
theorem qI.push{base:Nat}{w w':q3g}{v v' x:q58}{L:List (List Int)}{l:List Int}{vs:List q58}(h1:w.ownsRow base 29 1 v L.length vs)(h2:∀(j:Nat) x l,vs[j]?=some x->L[j]?=some l->qe 0 w.heap.size w x l)
  (hx:qe 0 w.heap.size w x l) (ho:w'.ownsRow base 29 1 v' (L.length+1) (vs++[x])) (hg:w.grownBy w' v.ownBlock):qI base w' v' (L++[l]):=by
 have Z:vs.length=L.length:=by have:=h1.1;simpa using this
 refine⟨vs++[x],by simpa using ho,λj y m hy hm=>?_⟩;by_cases e:j<L.length
 ·rw[qaj (by omega)] at hy
  rw[qaj e] at hm;exact((h2 j y m hy hm).kept_own h1 (by decide) hg).mono (q5m _) hg.size
 ·rw[qco (by omega)] at hy hm
  have h0:j - L.length=0:=by
   have:=(q8w.1 hm).1;simp at this;omega
  rw[Z,h0] at hy;rw[h0] at hm;simp at hy hm;subst hy hm;exact(hx.kept_own h1 (by decide) hg).mono (q5m _) hg.size
theorem qI.at{base:Nat}{w:q3g}{v:q58}{L:List (List Int)}(h:qI base w v L):∃a c,v=.slice a L.length c/\(0<L.length->∃g,a=some ⟨g,0,none⟩/\∀(j:Nat) l,L[j]?=some l->∃x,w.cell? ⟨g,j,none⟩=some x/\qe 0 w.heap.size w x l):=by
 obtain⟨vs,h1,h2⟩:=h;have Z:vs.length=L.length:=by have:=h1.1;simpa using this
 obtain⟨a,c,rfl,h3⟩:=jo h1;refine⟨a,c,rfl,λhp=>?_⟩;obtain⟨g,rfl,-,-,h4⟩:=h3 hp;refine⟨g,rfl,λj l hl=>?_⟩;have hj:=(q8w.1 hl).1;obtain⟨x,hx⟩:∃x,vs[j]?=some x:=⟨_,q7C (by omega)⟩
 exact⟨x,(h4 j hj).trans hx,h2 j x l hx hl⟩
def ko(i:Nat)(L:List (List Int)):List (List Int):=L.map λl=>(i:Int)::l
def kN(L:List (List Int))(i:Nat):List (List Int):=(qa4 i).flatMap λ(i:Nat)=>ko i L
theorem JT(L:List (List Int))(i:Nat):kN L (i+1)=kN L i++ko i L:=by simp[kN,List.range_succ]
theorem KR(i:Nat)(L:List (List Int))(k:Nat)(l:List Int)(h:L[k]?=some l):ko i (L.take (k+1))=ko i (L.take k)++[(i:Int)::l]:=by
 rw[qbc,h];simp[ko]
theorem ZH(L:List (List Int)):∀i,(kN L i).length=i*L.length
 | 0=>by simp[kN]
 | i+1=>by rw[JT,qb3,ZH L i,ko,qcl,Nat.add_mul,Nat.one_mul]
theorem QQ(n:Nat):∀k,(kz n k).length=n ^ k
 | 0=>rfl
 | k+1=>by rw[show kz n (k+1)=kN (kz n k) n from rfl,ZH,QQ n k,Nat.pow_succ,Nat.mul_comm]
theorem J9(n:Nat):∀k,∀l∈kz n k,l.length=k
 | 0,l,h=>by simp[kz] at h;simp[h]
 | k+1,l,h=>by
  obtain⟨i,-,h2⟩:=List.mem_flatMap.1 h;obtain⟨m,hm,rfl⟩:=List.mem_map.1 h2;simp[J9 n k m hm]
theorem qI.one(w:q3g):qI w.heap.size (w.alloc (.cells #[.slice none 0 0] 29)) (.slice (some ⟨w.heap.size,0,none⟩) 1 1) [[]]:=by
 refine⟨[.slice none 0 0],⟨rfl,.inr ⟨_,1,_,rfl,q5m _,q7j w _,q5m _,by decide,rfl,rfl⟩⟩,λj x l hx hl=>?_⟩;have hj:j=0:=by have:=(q8w.1 hx).1;simp at this;omega
 subst hj;cases hx;cases hl;exact .nil _ _ _
theorem q63(w:q3g)(x:Int):(w.alloc (.cells #[.int .i64 x] 3)).ownsRow w.heap.size 3 1 (.slice (some ⟨w.heap.size,0,none⟩) 1 1) 1 [.int .i64 x] :=
 ⟨rfl,.inr ⟨_,1,#[.int .i64 x],rfl,q5m _,q7j w _,q5m _,by decide,rfl,rfl⟩⟩
theorem qe.news{lo hi:Nat}{w:q3g}{ad:qb9}{n c:Nat}{l:List Int}(h:qe lo hi w (.slice (some ad) n c) l):∀j u,(l.map (q9q .i64))[j]?=some u->w.cell? (ad.add j)=some u:=λj u hu=>by
 rw[List.getElem?_map] at hu;cases hj:l[j]? with
 | none=>rw[hj] at hu;cases hu
 | some x =>
  rw[hj] at hu;cases hu;obtain⟨_,_,e,_,hc⟩:=h;have Z:=(q8w.1 hj).1;obtain⟨B,o,cs,fr,e1,h1,h2,h3,h4⟩:=hc (by rintro rfl;simp at Z);cases e;cases e1;have:=h4 j Z;rw[hj] at this;exact kF (qa h3 this)
theorem q09(n:Nat)(hn:n<=5):∀k:Nat,k<=5->∀w,qaD Tryp.prog 104 #[.int .i64 n,.int .i64 k] w λe w'=>∃v,e=.returned v/\w.grownBy w' none/\qI w.heap.size w' v (kz n k)
 | 0,_,w=>by
  go_enter Tryp.func104,Tryz.ntmps104;go_wp2;go_ret;exact⟨_,rfl,q34 _ _ none,qI.one w⟩
 | k+1,hk,w=>by
  obtain⟨i0,e7,e5,e4,d9⟩:=qch Tryp.info3p;obtain⟨j0,d6,d5,c9,c8⟩:=qch Tryp.info29L;have d7:=q1D (q09 n hn k (by omega) w);have k6:((k:Int)+1 == 0)=false:=by rw[beq_eq_false_iff_ne];omega
  have h8:IntKind.i64.wrap (k:Int)=(k:Int):=qa7 _ (by omega);obtain⟨L,hL⟩:∃L,L=kz n k:=⟨_,rfl⟩
  have e8:L.length<=3125:=by rw[hL,QQ];exact q87 (Nat.pow_le_pow_left hn k) (q87 (Nat.pow_le_pow_right (by decide) (show k<=5 by omega)) (by decide))
  have HE:=q1D (show ∀l∈L,l.length<=5 by rw[hL];exact λl h=>by rw[J9 n k l h];omega);rw[<- hL] at d7;have g7:=q1D (show kz n (k+1)=kN L n by rw[hL];rfl);clear hL;rw[show((k+1:Nat):Int)=(k:Int)+1 by omega];go_enter Tryp.func104,Tryz.ntmps104;go_upto_region 5 with(first
   | (go_at_call 104;refine d7.out.mono ?_;rintro e w1 ⟨v,rfl,hg,hr⟩;obtain⟨la,lc,rfl,-⟩:=hr.at;have HG:=q1D hg;have HR:=q1D hr;clear hg hr))
  obtain⟨A,hA⟩:∃A,A=w1.heap.size:=⟨_,rfl⟩
  have HA:=q1D hA;clear hA;go_wp2;go_loopw [5,7] (λov iv wr=>∃i:Nat,iv=.int .i64 i/\i<=n/\w1.grownBy wr none/\qI A wr ov (kN L i)) (λ_ iv _=>(n - qb2 iv).toNat)
  case atStart=>exact⟨0,rfl,by omega,q8j _ _,by simpa[kN] using qI.nil _ _⟩
  case round =>
   obtain⟨i,rfl,hi,hG,hO⟩:=hrel;have d8:=q1D hG;have HO:=q1D hO;clear hG hO;by_cases hlt:i<n
   ·have k7:(i:Int)<(n:Int):=by omega
    have e9:=q1D (JT L i);have h9:(kN L i).length<=15625:=by rw[ZH];exact q87 (Nat.mul_le_mul (show i<=5 by omega) e8) (by decide)
    go_wp2;go_loopw [5,8] (λov xv wj=>∃x:Nat,xv=.int .i64 x/\x<=L.length/\w1.grownBy wj none/\qI A wj ov (kN L i++ko i (L.take x))) (λ_ xv _=>(L.length - qb2 xv).toNat)
    case atStart=>exact⟨0,rfl,by omega,d8.out,by simpa[ko] using HO.out⟩
    case round =>
     obtain⟨x,rfl,hx,hG,hN⟩:=hrel;have c3:=q1D hG;obtain⟨vs,a7,a9⟩:=hN;obtain⟨na,nc,rfl,-⟩:=jo a7;by_cases hxl:x<L.length
     ·obtain⟨l,hl⟩:∃l,L[x]?=some l:=⟨_,q7C hxl⟩
      obtain⟨_,_,er,hr⟩:=(HR.out.kept hG).at;injection er with er1 _ er3;subst er1 er3;obtain⟨g,rfl,b6⟩:=hr (by omega);obtain⟨y,hy,hyi⟩:=b6 x l hl;obtain⟨yb,yc,rfl,-,-⟩:=hyi.cell;have k5:l.length<=5:=HE.out l (q8z hl);have g9:(x:Int)<(L.length:Int):=by omega
      have HS:=q1D (KR i L x l hl);obtain⟨M,hM⟩:∃M,M=kN L i++ko i (L.take x):=⟨_,rfl⟩
      have k8:M.length<=20000:=by rw[hM,qb3,ko,qcl,qcD];omega
      rw[<- hM] at a7 a9 ⊢;have HS:=q1D (show kN L i++ko i (L.take (x+1))=M++[(i:Int)::l] by rw[HS.out,<- qc1,<- hM]);have HI:=q1D a9;have a8:=q1D a7;have HY:=q1D hyi;have k9:A<=wr.heap.size:=by have:=HA.out;have:=hG.size;omega
      have g8:=(q34 wr (.cells #[.int .i64 i] 3) none).cell hy (by simp);have H1:=q1D (q63 wr i);have g6:=q1D (qe.kept hyi (q34 wr (.cells #[.int .i64 i] 3) none) (by simp));have e6:(wr.alloc (.cells #[.int .i64 i] 3)).heap.size=wr.heap.size+1:=q8f _ _;clear hG a9 a7 b6 hr hyi hM hl;rcases yb with _ | ad
      ·obtain rfl:l=[]:=qbw λh=>by obtain⟨_,_,e,_,hc⟩:=HY.out;obtain⟨_,_,_,_,e1,_⟩:=hc h;cases e;cases e1
       have b7:=q7j (wr.alloc (.cells #[.int .i64 i] 3)) (.cells #[.slice (some ⟨wr.heap.size,0,none⟩) 1 1] 29);rw[e6] at b7;have g5:=q1D b7;clear b7;go_wp2_with (first
        | (at_builtin;(refine wpList_append_own _ rfl _ _ 36 rfl A 29 j0 _ 1 24 Tryp.und36L d6 d5 c9 c8 rfl (by decide) (.slice na M.length nc) M.length vs rfl ((a8.out.kept (q34 _ _ none) (qd6 _)).alloc _) ⟨wr.heap.size+1,0,none⟩ 1 1 [.slice (some ⟨wr.heap.size,0,none⟩) 1 1] rfl rfl (qbg (cs:=#[.slice (some ⟨wr.heap.size,0,none⟩) 1 1]) (t:=29) (fr:=(0,0)) g5.out) (by simp[qbD]) (by unfold maxLen;omega) (by omega) (by simp;omega) ?_);intro v5 w5 hown Z _;have HW:=q1D hown;have b0:=q1D Z;clear hown Z))
       have a6:=(q34 wr (.cells #[.int .i64 i] 3) none).trans (q34 _ (.cells #[.slice (some ⟨wr.heap.size,0,none⟩) 1 1] 29) none);have b9:=qI.push ((a8.out.kept (q34 wr (.cells #[.int .i64 i] 3) none) (qd6 _)).alloc (.cells #[.slice (some ⟨wr.heap.size,0,none⟩) 1 1] 29)) (λj x q hx hq=>((HI.out j x q hx hq).kept a6 (by simp)).mono (q5m _) a6.size) ((qe.own (l:=[(i:Int)]) (H1.out.alloc (.cells #[.slice (some ⟨wr.heap.size,0,none⟩) 1 1] 29)) (by simp)).mono (qa8 _) (q5m _)) HW.out b0.out;have b8:=qc0 (row:=none) (c3.out.trans a6) b0.out (λj e=>.inl (by have:=(a8.out.lt j e).1;have:=HA.out;omega));go_roundw
       case rel=>exact⟨x+1,by simp,by omega,b8,by rw[HS.out];exact b9⟩
       case measure=>simp[qb2];omega
      ·go_wp2_with (first
        | (at_builtin;(refine wpList_append_own _ rfl _ _ 29 rfl wr.heap.size 3 i0 _ 1 8 Tryp.und29' e7 e5 e4 d9 rfl (by decide) (.slice (some ⟨wr.heap.size,0,none⟩) 1 1) 1 [.int .i64 i] rfl H1.out ad l.length yc (l.map (q9q .i64)) rfl (by simp) g6.out.news (by intro u hu;simp at hu;obtain⟨x,_,rfl⟩:=hu;rfl) (by unfold maxLen;omega) (by omega) (by simp) ?_);intro v4 w4 hown Z _;obtain⟨g4,c4,rfl⟩:∃g4 c4,v4=.slice (some ⟨g4,0,none⟩) (1+l.length) c4:=(by rw[Nat.add_comm] at hown;obtain⟨g,c,e⟩:=ownsRow_succ hown;exact⟨g,c,by rw[e,Nat.add_comm]⟩);have XO:=q1D (qe.own (l:=(i:Int)::l) hown (by simp;omega));have G4:=q1D (qc0 (row:=none) (q34 wr (.cells #[.int .i64 i] 3) none) Z (λj e=>.inl (H1.out.lt j e).1));have k0:=G4.out.size;clear hown Z)
        | (at_builtin;(refine wpList_append_own _ rfl _ _ 36 rfl A 29 j0 _ 1 24 Tryp.und36L d6 d5 c9 c8 rfl (by decide) (.slice na M.length nc) M.length vs rfl ((a8.out.kept G4.out (qd6 _)).alloc _) ⟨w4.heap.size,0,none⟩ 1 1 [.slice (some ⟨g4,0,none⟩) (1+l.length) c4] rfl rfl (qbg (cs:=#[.slice (some ⟨g4,0,none⟩) (1+l.length) c4]) (t:=29) (fr:=(0,0)) (q7j w4 _)) (by simp[qbD]) (by unfold maxLen;omega) (by omega) (by simp;omega) ?_);intro v5 w5 hown Z _;have HW:=q1D hown;have b0:=q1D Z;clear hown Z))
       have a6:=G4.out.trans (q34 w4 (.cells #[.slice (some ⟨g4,0,none⟩) (1+l.length) c4] 29) none);have b9:=qI.push ((a8.out.kept G4.out (qd6 _)).alloc (.cells #[.slice (some ⟨g4,0,none⟩) (1+l.length) c4] 29)) (λj x q hx hq=>((HI.out j x q hx hq).kept a6 (by simp)).mono (q5m _) a6.size) ((XO.out.alloc (.cells #[.slice (some ⟨g4,0,none⟩) (1+l.length) c4] 29)).mono (qa8 _) (by simp)) HW.out b0.out;have b8:=qc0 (row:=none) (c3.out.trans a6) b0.out (λj e=>.inl (by have:=(a8.out.lt j e).1;have:=HA.out;omega));go_roundw
       case rel=>exact⟨x+1,by simp,by omega,b8,by rw[HS.out];exact b9⟩
       case measure=>simp[qb2];omega
     ·obtain rfl:x=L.length:=by omega
      have HN:=q1D (show qI A wr (.slice na _ nc) (kN L i++ko i (L.take L.length)) from⟨vs,a7,a9⟩);clear hG a9 a7;go_wp2;go_roundw
      case rel=>exact⟨i+1,by simp,by omega,c3.out,by rw[e9.out];simpa using HN.out⟩
      case measure=>simp[qb2];omega
   ·obtain rfl:i=n:=by omega
    go_wp2;go_ret;exact⟨_,rfl,HG.out.trans d8.out,by rw[g7.out];exact HO.out.low (by rw[HA.out];exact HG.out.size)⟩
theorem q3h(l:List Int)(k:Nat):jD l (k+1)=(jD l k && l.contains (k:Int)):=by simp[jD,List.range_succ]
theorem q7u{p:List Int->Bool}(L:List (List Int))(i:Nat)(l:List Int)(h:L[i]?=some l):(L.take (i+1)).filter p=(L.take i).filter p++if p l then[l] else[]:=by
 rw[qbc,h,List.filter_append];cases e:p l<;>simp[e]
theorem J6(n:Nat)(hn:n<=5)(w:q3g):qaD Tryp.prog 46 #[.int .i64 n] w λe w'=>∃v,e=.returned v/\w.grownBy w' none/\qI w.heap.size w' v (yX n):=by
 obtain⟨j0,d6,c9,c8,c3⟩:=qch Tryp.info29L;have b8:=q1D (q09 n hn n hn w);obtain⟨L,hL⟩:∃L,L=kz n n:=⟨_,rfl⟩
 have e8:L.length<=3125:=by rw[hL,QQ];exact q87 (Nat.pow_le_pow_left hn n) (q87 (Nat.pow_le_pow_right (by decide) hn) (by decide))
 have d9:=q1D (show yX n=L.filter λl=>jD l n by rw[hL];rfl);rw[<- hL] at b8;clear hL;go_enter Tryp.func46,Tryz.ntmps46;go_upto_region 3 with(first
  | (go_at_call 104;refine b8.out.mono ?_;rintro e w1 ⟨v,rfl,hg,hr⟩;obtain⟨la,lc,rfl,-⟩:=hr.at;have HG:=q1D hg;have HR:=q1D hr;clear hg hr))
 obtain⟨A,hA⟩:∃A,A=w1.heap.size:=⟨_,rfl⟩
 have HA:=q1D hA;clear hA;go_wp2;go_loopw [3,5] (λov iv wr=>∃i:Nat,iv=.int .i64 i/\i<=L.length/\w1.grownBy wr none/\qI A wr ov ((L.take i).filter λl=>jD l n)) (λ_ iv _=>(L.length - qb2 iv).toNat)
 case atStart=>exact⟨0,rfl,by omega,q8j _ _,qI.nil _ _⟩
 case round =>
  obtain⟨i,rfl,hi,hG,hO⟩:=hrel;have b7:=q1D hG;by_cases hlt:i<L.length
  ·obtain⟨l,hl⟩:∃l,L[i]?=some l:=⟨_,q7C hlt⟩
   obtain⟨vs,a8,b6⟩:=hO;obtain⟨na,nc,rfl,-⟩:=jo a8;obtain⟨_,_,er,hr⟩:=(HR.out.kept hG).at;injection er with er1 _ er3;subst er1 er3;obtain⟨g,rfl,b0⟩:=hr (by omega);obtain⟨y,hy,hyi⟩:=b0 i l hl;obtain⟨yb,yc,rfl,-,-⟩:=hyi.cell;have e6:(i:Int)<(L.length:Int):=by omega
   have a7:=q1D (q7u (p:=λl=>jD l n) L i l hl);obtain⟨M,hM⟩:∃M,M=(L.take i).filter λl=>jD l n:=⟨_,rfl⟩
   have e7:M.length<=3125:=by
    rw[hM];exact q87 (qcd _ _) (by rw[qcD];omega)
   rw[<- hM] at a8 b6 a7 ⊢;have HI:=q1D b6;have a9:=q1D a8;have HY:=q1D hyi;have e9:A<=wr.heap.size:=by have:=HA.out;have:=hG.size;omega
   clear hG b6 a8 b0 hr hyi hM hl;go_wp2;go_loopw [6,7] (λbv kv wj=>∃k:Nat,kv=.int .i64 k/\k<=n/\bv=.bool (jD l k)/\wr=wj) (λ_ kv _=>(n - qb2 kv).toNat)
   case atStart=>exact⟨0,rfl,by omega,by simp[jD],rfl⟩
   case round =>
    obtain⟨k,rfl,hk,rfl,rfl⟩:=hrel;by_cases e4:k<n
    ·have e5:(k:Int)<(n:Int):=by omega
     have HS:=q1D (q3h l k);cases hb:jD l k with
     | true =>
      rw[hb] at HS;by_cases hm:(k:Int)∈l
      ·have HC:=q1D (show jD l (k+1)=true by rw[HS.out];simpa using hm)
       go_wp2_with (first
        | (go_at_call 40;refine(q1x 0 _ _ l k _ HY.out).mono ?_;rintro e w3 ⟨r,rfl,hr,rfl⟩;have d5:0<=r:=(by have:=mt hr.1;simp only[Decidable.not_not] at this;have:=this hm;omega);clear hr))
       go_roundw
       case rel=>exact⟨k+1,by simp,by omega,by rw[HC.out],by first | rfl | trivial⟩
       case measure=>simp[qb2];omega
      ·have HC:=q1D (show jD l (k+1)=false by rw[HS.out];simpa using hm)
       go_wp2_with (first
        | (go_at_call 40;refine(q1x 0 _ _ l k _ HY.out).mono ?_;rintro e w3 ⟨r,rfl,hr,rfl⟩;have d5:¬ 0<=r:=(by have:=hr.2 hm;omega);clear hr))
       go_roundw
       case rel=>exact⟨k+1,by simp,by omega,by rw[HC.out];first | rfl | (simp;omega),by first | rfl | trivial⟩
       case measure=>simp[qb2];omega
     | false =>
      rw[hb] at HS;have HC:=q1D (show jD l (k+1)=false by rw[HS.out];rfl);go_wp2;go_roundw
      case rel=>exact⟨k+1,by simp,by omega,by rw[HC.out],by first | rfl | trivial⟩
      case measure=>simp[qb2];omega
    ·obtain rfl:k=n:=by omega
     cases hb:jD l k with
     | true =>
      rw[hb,if_pos rfl] at a7;go_wp2_with (first
       | (at_builtin;(refine wpList_append_own _ rfl _ _ 36 rfl A 29 j0 _ 1 24 Tryp.und36L d6 c9 c8 c3 rfl (by decide) (.slice na M.length nc) M.length vs rfl (a9.out.alloc _) ⟨wr.heap.size,0,none⟩ 1 1 [.slice yb l.length yc] rfl rfl (qbg (cs:=#[.slice yb l.length yc]) (t:=29) (fr:=(0,0)) (q7j wr _)) (by simp[qbD]) (by unfold maxLen;omega) (by omega) (by simp;omega) ?_);intro v5 w5 hown Z _;have HW:=q1D hown;have b9:=q1D Z;clear hown Z))
      have a6:=q34 wr (.cells #[.slice yb l.length yc] 29) none;have d8:=qI.push (a9.out.alloc (.cells #[.slice yb l.length yc] 29)) (λj x q hx hq=>((HI.out j x q hx hq).kept a6 (by simp)).mono (q5m _) a6.size) ((HY.out.kept a6 (by simp)).mono (q5m _) a6.size) HW.out b9.out;have d7:=qc0 (row:=none) (b7.out.trans a6) b9.out (λj e=>.inl (by have:=(a9.out.lt j e).1;have:=HA.out;omega));go_roundw
      case rel=>exact⟨i+1,by simp,by omega,d7,by rw[a7.out];exact d8⟩
      case measure=>simp[qb2];omega
     | false =>
      rw[hb] at a7;go_wp2;go_roundw
      case rel=>exact⟨i+1,by simp,by omega,b7.out,by rw[a7.out];simpa using(show qI A _ _ M from⟨vs,a9.out,HI.out⟩)⟩
      case measure=>simp[qb2];omega
  ·obtain rfl:i=L.length:=by omega
   have HO:=q1D hO;clear hG hO;go_wp2;go_ret;have h1:=HO.out;rw[qcc] at h1;exact⟨_,rfl,HG.out.trans b7.out,by rw[d9.out];exact h1.low (by rw[HA.out];exact HG.out.size)⟩
end Go.Proofs.YtidgnkmjgioapaaGreat
end
