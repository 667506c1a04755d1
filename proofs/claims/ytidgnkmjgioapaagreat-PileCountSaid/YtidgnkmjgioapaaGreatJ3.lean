/-
  Part 6 of the proof. gladstonelaw04.PileCount answers true for every list of numbers, and leaves its argument as it was. No conditions.
-/
import Derived.Test.YtidgnkmjgioapaaGreatJ2
import Derived.Test.YtidgnkmjgioapaaGreatRows
import Derived.Conc.LeavingOf
import Derived.Conc.HoldsTime
import Derived.ChangeSame
import Derived.ChangeVars
import Derived.JoinedOf
import Derived.RowKit
import Derived.RowKitTokens
import Derived.LaidHandle
import Derived.ProofKit
set_option maxRecDepth 100000
set_option maxHeartbeats 8000000
set_option linter.all false
open Array renaming getElem?_eq_getElem → q8B,getElem?_eq_some_iff → q3h,replicate_succ → q9w,replicate_zero → q9x
open Bool renaming and_eq_true → q85,or_eq_true → qbC
open Go renaming Addr → qai,Calls → qa0,FuncId → qam,Value → q4k,World → q2v,callsIn_wide → qb8,heap_alloc_new → q4F,info_parts → qc4,undef → q4D
open Go.Conc renaming base → q8A
open Go.Frame renaming enter → q9v,finish_at → qbl
open Go.IntWalk renaming i64_in → q9c
open Go.Lib renaming hid → q1h
open Go.Proofs.Tryz renaming prog → q7w
open Go.RowKit renaming intOf → qaq
open Go.RowKit.Below renaming heap_setCell → qad
open Go.Value renaming int → q8w,oneCell' → qbz,slice → qaA
open Go.World renaming cell? → q9q,grownBy_alloc → q2j,news_of_block → qb3,setCell → qbc,size_alloc → q7k
open Go.World.grownBy renaming refl → q7F
open List renaming append_toArray → qcb,cons_append → q8G,drop_succ_cons → qas,drop_zero → qbg,getElem?_eq_getElem → q7i,length_append → qao,length_cons → q7q,length_nil → q82,length_take → qca,map_append → qbm,mem_of_getElem? → q8u,nil_append → q9k,push_toArray → qal,range → q99,size_toArray → q8H,take_add_one → qav,take_length → qbp
open List.range renaming loop → q9H
open Nat renaming le_refl → q4u,le_trans → q6s,lt_of_lt_of_le → q7u,reduceAdd → q94,reduceSub → qb0,zero_add → q8l,zero_le → q9j
open Option renaming getD_some → q72
open Prod renaming fst → qcn
section
namespace Go.Proofs.YtidgnkmjgioapaaGreat
open Go.RowKit Go.Shelf
attribute [local go_sem] Oper.semAt_some
structure Ka(w3:q2v)(Bl N:Nat)(W:q2v):Prop where
 os:W.os=w3.os
 tape:W.tape=w3.tape
 output:W.output=w3.output
 size:w3.heap.size<=W.heap.size
 keep:∀k,k<w3.heap.size->k≠Bl->k≠N->W.heap[k]?=w3.heap[k]?
theorem Ka.stp{w3:q2v}{Bl N:Nat}{G:Nat->Prop}{A C:q2v}(h:Ka w3 Bl N A)(hs:Stp w3.heap.size Bl G A C):Ka w3 Bl N C :=
 ⟨hs.os.trans h.os,hs.tape.trans h.tape,hs.output.trans h.output,q6s h.size hs.size,λk hk hn h2=>(hs.keep k (q7u hk h.size) (.inl ⟨hk,hn⟩)).trans (h.keep k hk hn h2)⟩
theorem Ka.grown{w3:q2v}{Bl N:Nat}{A C:q2v}(h:Ka w3 Bl N A)(hg:A.grownBy C none):Ka w3 Bl N C :=
 ⟨hg.os.trans h.os,hg.tape.trans h.tape,hg.output.trans h.output,q6s h.size hg.size,λk hk hn h2=>(hg.block k (q7u hk h.size) (by simp)).trans (h.keep k hk hn h2)⟩
theorem Ka.set{w3:q2v}{Bl N:Nat}{A:q2v}(h:Ka w3 Bl N A)(o:Nat)(v:q4k):Ka w3 Bl N (A.setCell ⟨N,o,none⟩ v) :=
 ⟨h.os,h.tape,h.output,by simpa[qbc] using h.size,λk hk hn h2=>(qad _ _ _ k (λe=>h2 e)).trans (h.keep k hk hn h2)⟩
theorem q5a:∀n,n<=5->(yh (qS n)).length<=120
 | 0,_=>by decide
 | 1,_=>by decide
 | 2,_=>by decide
 | 3,_=>by decide
 | 4,_=>of_decide_eq_true (by kernel_rfl)
 | 5,_=>of_decide_eq_true (by kernel_rfl)
 | n+6,h=>by omega
theorem q76(pv:q4k)(ps:List Par)(lim:Int)(w:q2v)(hP:qp 0 w.heap.size w pv ps)(hok:YOk ps lim) :
  qa0 Tryp.prog 59 #[.agg #[pv,.int .i64 lim]] w λe w'=>e=.returned (.tuple #[.int .i64 ((yh (qS ps.length)).countP (qT ps lim):Nat),.int .i64 0])/\w.grownBy w' none:=by
 obtain⟨yb,yc,rfl,m3,-⟩:=hP.cell;have HP:=q1h hP;have b9:=q1h hok;have hn:ps.length<=1000:=by have:=hok.len;omega
 clear hP hok;refine(qb8 (n:=6)).1 ?_;refine callsIn_of_wp_marks Tryp.func59 rfl trivial ?_ rfl;simp only[Tryz.ntmps59,q8H,q7q,q82,q94,qb0,q9w,q9x,qal,qcb,q9k,q8G]
 gi_wp2_with (first
  | (refine⟨trivial,?_⟩;gi_at_call 81;refine(qb8.2 (kD 0 w.heap.size _ _ ps lim [] _ (HP.out.kept (q2j _ _ none) (by simp)) (qe.nil _ _ _) (by simp) b9.out (POk.nil ps b9.out.l1))).mono ?_;rintro e w2 ⟨rfl,g7⟩;have d8:=q1h ((q2j w (.cells #[.slice yb ps.length yc,.int .i64 lim] 24) none).trans g7);clear g7)
  | (refine⟨trivial,?_⟩;gi_at_call 100;refine(qb8.2 (kE yb ps.length yc lim _ hn)).mono ?_;rintro e w5 ⟨v5,rfl,g6,d7⟩;obtain⟨b5,k5,rfl,-,-⟩:=d7.cell;have h9:=q1h g6;have h8:=q1h d7;clear g6 d7)
  | (refine⟨trivial,?_⟩;gi_at_call 117;refine(qb8.2 (QF _ _ _ _)).mono ?_;rintro e w6 ⟨rfl,rfl⟩))
 obtain⟨Y,b7⟩:∃Y,Y=w2.heap.size:=⟨_,rfl⟩
 obtain⟨Bl,b8⟩:∃Bl,Bl=w5.heap.size:=⟨_,rfl⟩
 obtain⟨w3,b6⟩:∃w3,w3=w5.alloc (.cells #[.slice b5 (qS ps.length).length k5] 29):=⟨_,rfl⟩
 rw[<- b7,<- b8,<- b6];have Z:=h9.out;have a6:w5.grownBy w3 none:=by rw[b6];exact q2j _ _ none
 have c9:(w2.alloc (.cells #[.slice yb ps.length yc,.int .i64 lim] 91)).heap.size=Y+1:=by rw[q7k,b7]
 have e8:w3.heap[Y]?=some (.cells #[.slice yb ps.length yc,.int .i64 lim] 91 (0,0)):=by
  rw[b7];exact blk (Z.trans a6) (by simp) (qq (q4F w2 _))
 have g5:w3.heap[Y+1]?=some (.cells #[.int .i64 0] 3 (0,0)):=by
  have:=q4F (w2.alloc (.cells #[.slice yb ps.length yc,.int .i64 lim] 91)) (.cells #[.int .i64 0] 3);rw[c9] at this;exact blk (Z.trans a6) (by simp) this
 have l4:w3.heap[Bl]?=some (.cells #[.slice b5 (qS ps.length).length k5] 29 (0,0)):=by rw[b6,b8];exact q4F w5 _
 have m5:Y+1<Bl:=by
  have:=Z.size;rw[q7k,c9] at this;omega
 have k7:w3.heap.size=Bl+1:=by rw[b6,q7k,b8]
 have d6:w.grownBy w3 none:=d8.out.trans (((q2j _ _ none).trans (q2j _ _ none)).trans (Z.trans a6));have k9:qe 0 w3.heap.size w3 (.slice b5 (qS ps.length).length k5) (qS ps.length):=(h8.out.kept a6 (by simp)).mono (q9j _) a6.size;have e7:w.heap.size<=Y:=by rw[b7];exact d8.out.size
 have k8:ps.length<=5:=b9.out.len;have l6:=q1h (HP.out.kept d6 (by simp));have l8:=q1h g5;have l5:=q1h e8;have m8:=q1h k7;have l9:=q1h d6;have g8:=q1h e7;clear b7 b8 b6 Z a6 c9 e8 g5 d6 d8 h9 h8 e7;refine jY rfl (by omega) (gf:=149) (lb:=#[.pointer (some ⟨Bl,0,none⟩)]) rfl trivial (enters_of Tryp.func149 (by kernel_rfl) rfl)
  (vJ 5 Bl b5 k5 (qS ps.length) (qS ps.length) (ve (by rw[z8];omega) (Q6 _)) (λx hx=>by have:=xF hx;omega) (Z6 (Q6 _)) (by rw[z8];omega) w3 l4 k9) (Below.refl _ _) (λ_=>rfl) (G0:=Z9) (λh=>h) (by omega) (q08)
  (λpr G W=>G=Z9/\Ka w3 Bl (Y+1) W/\W.heap[Y+1]?=some (.cells #[.int .i64 ((pr.map qcn).countP (qT ps lim):Nat)] 3 (0,0)))
  (λ_ _ _ _=>False)
  (λs G A h k hk=>by rw[h.1] at hk;exact hk.elim)
  (λs G A C h hst=>⟨h.1,h.2.1.stp hst,(hst.keep _ (qy h.2.2) (.inl ⟨by omega,by omega⟩)).trans h.2.2⟩)
  (λ_ _ _ _ _ h _=>h)
  ⟨rfl,⟨rfl,rfl,rfl,q4u _,λ_ _ _ _=>rfl⟩,l8.out⟩
  (λx=>{ tmps:=#[.agg #[.slice yb ps.length yc,.int .i64 lim],.pointer (some ⟨w.heap.size,0,none⟩),.int .i64 0,.int .i64 0,.pointer (some ⟨Y,0,none⟩),.int .i64 0,.pointer (some ⟨Y+1,0,none⟩),x.2,.tuple #[.agg #[.slice yb ps.length yc,.int .i64 lim],.int .i64 0],.agg #[.slice yb ps.length yc,.int .i64 lim],.tuple #[.agg #[.slice yb ps.length yc,.int .i64 lim],.int .i64 0],.agg #[.slice yb ps.length yc,.int .i64 lim],.int .i64 0,.int .i64 0,.bool false,q4D,.agg #[.slice yb ps.length yc,.int .i64 lim],.slice b5 (qS ps.length).length k5,.func (.func 149) #[] #[.pointer (some ⟨Bl,0,none⟩)],x.2,q4D,q4D,q4D,q4D,q4D,q4D],defers:=[] }) ?assign ?body ?done ?stop
 case assign =>
  intro l x W K hK
  gi_wp2
  exact hK
 case body =>
  rintro l pr G x W ⟨rfl,a7,a9⟩ hx ⟨t,ht⟩;have c3:=(a7.keep Y (by omega) (by omega) (by omega)).trans l5.out;have e9:qp 0 W.heap.size W (.slice yb ps.length yc) ps:=by
   obtain⟨b',c',e,hl,hr⟩:=l6.out;refine⟨b',c',e,hl,λhne=>?_⟩;obtain⟨B,o,cs,fr,e1,e2,e3,e4,e5⟩:=hr hne;have:=g8.out;have:=a7.size;exact⟨B,o,cs,fr,e1,e2,by omega,(a7.keep B (by omega) (by omega) (by omega)).trans e4,e5⟩
  obtain⟨c8,b0⟩:=hx;have d5:PIn ps x.1:=⟨λy hy=>xF (b0.2.2.1 y hy),b0.2.1,by have:=b0.1;rw[z8] at this;omega⟩
  have hcl:(pr.map qcn).countP (qT ps lim)<=120:=by
   have h1:=q5a ps.length k8;rw[show yh (qS ps.length)=_ from ht,qao,qbm,qao] at h1;have h2:=List.countP_le_length (p:=qT ps lim) (l:=pr.map qcn);omega
  obtain⟨x1,x2⟩:=x;obtain⟨xb,xc,d9,-,-⟩:=c8.cell;dsimp only at d9 d5 b0;subst d9;have c1:W.cell? ⟨Y,0,none⟩=some (.slice yb ps.length yc):=q8 c3 rfl;have c2:W.cell? ⟨Y,1,none⟩=some (.int .i64 lim):=q8 c3 rfl;obtain⟨z,hz⟩:∃z,z=qT ps lim x1:=⟨_,rfl⟩
  have e6:qa0 Tryp.prog 114 #[.agg #[.slice yb ps.length yc,.int .i64 lim],.slice xb x1.length xc] W λe w'=>e=.returned (.bool z)/\W.grownBy w' none:=by
   rw[hz];exact Yo 0 W.heap.size _ _ ps lim x1 W ⟨_,rfl,e9⟩ c8 (q4u _) b9.out d5
  have HC:=q1h (show((pr++[(x1,qaA xb x1.length xc)]).map qcn).countP (qT ps lim)=(pr.map qcn).countP (qT ps lim)+if z then 1 else 0 by rw[qbm,List.countP_append,hz];simp[List.countP_cons]);generalize (pr.map qcn).countP (qT ps lim)=c at hcl a9 HC;have k0:=q1h e6;have a8:=q1h a7;have g9:=q1h a9;clear e6 hz c8 b0 a7 a9 c3 e9 d5 ht;cases z with
  | false =>
   gi_wp2_with (first | (refine⟨trivial,?_⟩;gi_at_call 114;refine(CallsIn.inRound l (qb8.2 k0.out)).mono ?_;rintro e w5 ⟨rfl,Z⟩))
   refine⟨Z9,⟨Z.tape,Z.size,λk hk _ _=>Z.block k hk (by simp),λk hk=>hk.elim⟩,rfl,a8.out.grown Z,?_⟩;rw[HC.out];exact blk Z (by simp) g9.out
  | true =>
   have m4:IntKind.i64.wrap ((c:Int)+1)=(c:Int)+1:=q9c _ (by omega)
   gi_wp2_with (first | (refine⟨trivial,?_⟩;gi_at_call 114;refine(CallsIn.inRound l (qb8.2 k0.out)).mono ?_;rintro e w5 ⟨rfl,Z⟩;have n5:=blk Z (by simp) g9.out;have k5:=q8 (o:=0) n5 rfl;have z5:=qn (o:=0) n5;have l7:=q1h n5;clear n5))
   refine⟨Z9,⟨Z.tape,by simpa[qbc] using Z.size,λk hk hn _=>?_,λk hk=>hk.elim⟩,rfl,(a8.out.grown Z).set 0 _,?_⟩
   ·exact(qad _ _ _ k (λe=>by have e':k=Y+1:=e;omega)).trans (Z.block k hk (by simp))
   ·rw[HC.out,qh l7.out]
    rfl
 case done =>
  rintro D ys G W hD hxs ⟨rfl,a7,a9⟩ hK m7;obtain⟨c,hc⟩:∃c,c=(yh (qS ps.length)).countP (qT ps lim):=⟨_,rfl⟩
  rw[hxs,show zm (qS ps.length) (qS ps.length).length []=yh (qS ps.length) from rfl,<- hc] at a9;have k6:=q8 (o:=0) a9 rfl;have a8:=q1h a7;have HC:=q1h hc;clear a7 a9 hxs hc
  gi_wp2
  refine⟨by simp,.inl ⟨_,_,rfl,run_takeDeferred hK,?_⟩⟩;refine⟨.tuple #[.int .i64 (c:Nat),.int .i64 0],by simp[results,Tryz.results59,go_sem],by rw[HC.out],?_⟩;have hfs:=a8.out.size;have m6:=g8.out;exact ZI l9.out ⟨a8.out.os,a8.out.tape,a8.out.output,hfs,λk hk=>a8.out.keep k (by omega) (by omega) (by omega)⟩ (grownBy_putObj' W D (.deferred none)) (by omega)
 case stop =>
  rintro D c pr G W hD _ h;exact h.elim
theorem km(pv qv:q4k)(ps:List Par)(lim:Int)(l:List Int)(w:q2v)(hP:qp 0 w.heap.size w pv ps)(hI:qe 0 w.heap.size w qv l)(hok:YOk ps lim)(hp:PIn ps l) :
  qa0 Tryp.prog 49 #[.agg #[pv,.int .i64 lim],qv] w λe w'=>e=.returned (.int .i64 (Qf ps lim l))/\w.grownBy w' none:=by
 obtain⟨yb,yc,rfl,a8,-⟩:=hP.cell;obtain⟨base,cap,rfl,a9,-⟩:=hI.cell;have Z:=q2j w (.cells #[.slice yb ps.length yc,.int .i64 lim] 24) none;have HO:=q1h (Z8 0 w.heap.size _ _ ps lim l _ (hP.kept Z (by simp)) (hI.kept Z (by simp)) Z.size hok hp);have HG:=q1h Z;generalize Qf ps lim l=c at HO ⊢;clear Z hP hI hok hp;go_enter Tryp.func49,Tryz.ntmps49;go_wp2_with (first
  | (go_at_call 81;go_must (refine HO.out.mono ?_);rintro e w2 ⟨rfl,a6⟩;have a7:=q1h (HG.out.trans a6);clear a6))
 go_ret;exact⟨rfl,a7.out.trans (q2j _ _ none)⟩
def OrdC(ps:List Par)(lim:Int)(l ws:List Int)(n:Nat)(w:q2v)(v:q4k)(c:Int):Prop :=
 (¬ qO ps l<=lim/\v=.slice none 0 0/\c=10)\/(qO ps l<=lim/\(yh ws).find? (qT ps lim)=none/\v=.slice none 0 0/\c=11)\/(qO ps l<=lim/\c=0/\∃x,(yh ws).find? (qT ps lim)=some x/\qe n w.heap.size w v x)
theorem q6i(pv qv:q4k)(ps:List Par)(lim:Int)(l ws:List Int)(w:q2v)(hP:qp 0 w.heap.size w pv ps)(hI:qe 0 w.heap.size w qv l)(hok:YOk ps lim)(hp:PIn ps l)(hS:xS l ws)(hw:l.Perm ws) :
  qa0 Tryp.prog 56 #[.agg #[pv,.int .i64 lim],qv] w λe w'=>∃v c,e=.returned (.tuple #[v,.int .i64 c])/\w.grownBy w' none/\OrdC ps lim l ws w.heap.size w' v c:=by
 obtain⟨yb,yc,rfl,b8,-⟩:=hP.cell;obtain⟨base,cap,rfl,b9,-⟩:=hI.cell;have a7:=q2j w (.cells #[.slice yb ps.length yc,.int .i64 lim] 24) none;have HO:=q1h (Z8 0 w.heap.size _ _ ps lim l _ (hP.kept a7 (by simp)) (hI.kept a7 (by simp)) a7.size hok hp);have HG:=q1h a7;have hm:∀x∈ws,0<=x/\x<5:=λx hx=>by have:=hp.ok x (hw.symm.subset hx);have:=hok.len;omega
 have hn:=hw.nodup_iff.1 hp.nd;have hl:ws.length<=5:=by
  have h1:=ZC 5 ws hn hm;omega
 have HF:=q1h λ(W:q2v) (h:w.grownBy W none)=>KY (.agg #[.slice yb ps.length yc,.int .i64 lim]) (.slice base l.length cap) ps lim l ws W ⟨_,rfl,(hP.kept h (by simp)).mono (q4u _) h.size⟩ ((hI.kept h (by simp)).mono (q4u _) h.size) hok hS hm hn hl
  (λx h1 h2 h3=>⟨λy hy=>hp.ok y (hw.symm.subset (h3 y hy)),h2,by omega⟩)
 clear a7 hP hI hok hp hS hw hm hn hl;by_cases ht:qO ps l<=lim
 ·rw[show Qf ps lim l=0 from if_pos ht] at HO
  have HT:=q1h ht;clear ht;cases hfd:(zm ws ws.length []).find? (qT ps lim) with
  | none =>
   rw[hfd] at HF;have b0:=q1h hfd;clear hfd;go_enter Tryp.func56,Tryz.ntmps56;go_wp2_with (first
    | (go_at_call 81;go_must (refine HO.out.mono ?_);rintro e w2 ⟨rfl,Z⟩;have a6:=q1h ((HG.out.trans Z).trans (q2j w2 (.cells #[.slice yb ps.length yc,.int .i64 lim] 91) none));clear Z)
    | (go_at_call 102;refine(HF.out _ a6.out).mono ?_;rintro e w3 ⟨a8,⟨x,v',hx,-⟩ | ⟨-,rfl⟩⟩;cases hx;have a9:=q1h a8;clear a8))
   go_ret2;exact⟨_,_,rfl,a6.out.trans a9.out,Or.inr (Or.inl ⟨HT.out,b0.out,rfl,rfl⟩)⟩
  | some p =>
   rw[hfd] at HF;have b0:=q1h hfd;clear hfd;go_enter Tryp.func56,Tryz.ntmps56;go_wp2_with (first
    | (go_at_call 81;go_must (refine HO.out.mono ?_);rintro e w2 ⟨rfl,Z⟩;have a6:=q1h ((HG.out.trans Z).trans (q2j w2 (.cells #[.slice yb ps.length yc,.int .i64 lim] 91) none));clear Z)
    | (go_at_call 102;refine(HF.out _ a6.out).mono ?_;rintro e w3 ⟨a8,⟨x,v',hx,rfl,b6⟩ | ⟨hx,-⟩⟩<;>cases hx;have a9:=q1h a8;have b7:=q1h b6;clear a8 b6))
   go_ret2;exact⟨_,_,rfl,a6.out.trans a9.out,Or.inr (Or.inr ⟨HT.out,rfl,p,b0.out,b7.out.mono a6.out.size (q4u _)⟩)⟩
 ·rw[show Qf ps lim l=10 from if_neg ht] at HO
  go_enter Tryp.func56,Tryz.ntmps56;go_wp2_with (first
   | (go_at_call 81;go_must (refine HO.out.mono ?_);rintro e w2 ⟨rfl,Z⟩;have a6:=q1h (HG.out.trans Z);clear Z))
  go_ret2;exact⟨_,_,rfl,a6.out.trans (q2j _ _ none),Or.inl ⟨by omega,rfl,rfl⟩⟩
end Go.Proofs.YtidgnkmjgioapaaGreat
end
section
namespace Go.Proofs.YtidgnkmjgioapaaGreat
open Go Go.RowKit Go.Co Go.Sim Go.Conc Go.ConcN
theorem q60{p:List Int->Bool}(L:List (List Int))(i:Nat)(l:List Int)(h:L[i]?=some l):(L.take (i+1)).countP p=(L.take i).countP p+(if p l then 1 else 0)/\(L.take (i+1)).find? p=((L.take i).find? p).or (if p l then some l else none):=by
 rw[qav,h,List.countP_append,List.find?_append];cases e:p l<;>simp[e]
theorem ZG{p:List Int->Bool}(L:List (List Int)):L.countP p=0↔L.find? p=none:=by rw[List.countP_eq_zero,List.find?_eq_none]
theorem ZK(n:Nat):(yC n).length=n:=by simp[yC,z8]
theorem q9z(n k:Nat)(h:k<n):(yC n)[k]?=some ((n:Int) - 1 - k):=by
 unfold yC qS;rw[List.getElem?_reverse (by simpa using h)];simp;refine⟨n - 1 - k,?_,by omega⟩;rw[List.getElem?_range (by omega)]
theorem q1z(ps:List Par)(lim:Int)(x:List Int)(pv qv:q4k)(w:q2v)(hP:qp 0 w.heap.size w pv ps)(hI:qe 0 w.heap.size w qv x)(hok:YOk ps lim)(hp:PIn ps x) :
  qa0 Tryp.prog 37 #[.agg #[pv,.int .i64 lim],qv] w λe w'=>∃v c:Int,e=.returned (.tuple #[.int .i64 v,.int .i64 c])/\w.grownBy w' none/\((qT ps lim x=true->v=1/\c=0)/\(qT ps lim x=false->(qO ps x<=lim->¬ v=1/\c=0)/\(¬ qO ps x<=lim->c=10))):=by
 refine(q1A 0 w.heap.size pv qv ps lim x w hP hI (q4u _) hok hp).mono ?_;rintro e w' ⟨v,rfl,hv,hg⟩;refine⟨v,_,rfl,hg,λh=>?_,λh=>⟨λht=>?_,λht=>if_neg ht⟩⟩
 ·obtain⟨h1,h2⟩:=(J3 hok).1 h
  exact⟨(hv h1).trans h2,if_pos h1⟩
 ·refine⟨λh2=>?_,if_pos ht⟩
  have:=(J3 hok).2 ⟨ht,(hv ht).symm.trans h2⟩;rw[h] at this;cases this
section
variable[J:JunkSet]{Post:q4k->q2v->Prop}{W:q2v}
theorem el19(D:Two Tryp.prog q7w)(hok:JunkSet.okf 137)(k6:∀i,¬ JunkSet.jk i)(hin:Tryp.prog.inits.idxOf? 19=none)(c8:Tryz.prog.inits.idxOf? 19=none){base:Option qai}{len cap:Nat}
  {wq:q2v} (hl:(len:Int)<=9223372036854775807) (hr:0<len->∃lb lo,base=some ⟨lb,lo,none⟩/\∀i,i<len->∃x,wq.cell? ⟨lb,lo+i,none⟩=some (.int .i64 x)) (h0:qR wq 0)
  (b6:∀w,(∀j,j<W.heap.size->w.heap[j]?=W.heap[j]?)->w.os=W.os->w.output=W.output->W.heap.size<=w.heap.size->Post (.bool true) w) :
  EL Tryp.prog q7w 19 Post W (G (q9v Tryp.prog 19 #[.slice base len cap] .normal) [qi 19]) wq:=by
 have hs:Tryp.prog.funcs[(q8A 19).fn]?=Tryz.prog.funcs[(q8A 19).fn]?:=qW 19 (by decide);have hb:Bot 19 [qi 19]:=⟨[],rfl⟩
 rw[q6t (fn:=Tryz.f19) (c0:=Tryz.f19.body.getD .skip) Tryp.func19 (by kernel_rfl)];simp only[Tryz.f19,q72];walk_nrm;refine EL.seq D hb hs ?_;refine EL.piece D hb hs λT=>?_;go_wp2;refine EL.tape (wq:=wq) ?_ T;refine EL.seq D hb hs ?_;refine EL.piece D hb hs λT=>?_;have HR:=q1h hr;clear hr;go_wp2_with (first
  | (go_at_call 24;refine(q4d base len cap (wq.tp T) hl HR.out).mono ?_;rintro e w2 ⟨rfl,hg2,m3⟩;have G2:=q1h hg2;have T2:=q1h m3;clear hg2 m3)
  | (go_at_call 33;refine(q3j (wq.tp T).heap.size 0 5 w2 T2.out (by omega) (by omega)).mono ?_;rintro e w3 ⟨ps,lim,yv,l9,rfl,m6,k5⟩;have N2:=q1h m6;have P2:=q1h k5;have YD:=q1h l9;obtain⟨yb,yc,rfl,-,-⟩:=k5.cell;clear m6 k5 l9))
 obtain⟨X,hX⟩:∃X,X=w3.heap.size:=⟨_,rfl⟩
 rw[<- hX];have k7:=q2j w3 (.cells #[.slice yb ps.length yc,.int .i64 lim] 24) none;have n2:(wq.tp T).grownBy w3 none:=G2.out.andThen N2.out.1 (λj e=>by cases e;exact .inl (q4u _));refine zU (λq=>(wq.tp q.tape).grownBy q none/\q.heap[X]?=some (.cells #[.slice yb ps.length yc,.int .i64 lim] 24 (0,0))/\qp 0 q.heap.size q (.slice yb ps.length yc) ps) ⟨tpg (n2.trans k7),by rw[hX];exact q4F _ _,(P2.out.alloc _).mono (q9j _) k7.size⟩ λu2 hF=>?_;obtain⟨g2,x2,p2⟩:=hF;have b8:=q1h (YD.out.yok (q4u _));have a7:ps.length<=5:=b8.out.len;clear k7 N2 P2 hX YD n2 G2 T2 HR;refine EL.seq D hb hs ?_;refine EL.piece D hb hs λT=>?_;have c0:=q8 (w:=u2.tp T) x2 (o:=0) rfl;go_wp2_with (first
  | (go_at_call 46;refine(q2a ps.length a7 (u2.tp T)).mono ?_;rintro e w4 ⟨av,rfl,m9,k0⟩;have G4:=q1h m9;have R4:=q1h k0;obtain⟨ab,ac,rfl,-⟩:=k0.at;clear m9 k0))
 obtain⟨all,d9⟩:∃all,all=Jr ps.length:=⟨_,rfl⟩
 rw[<- d9] at R4 ⊢;have b9:=q1h (d9.trans (q4a ps.length a7));have s3:all.length<=120:=by rw[b9.out];exact q5a _ a7
 have q7:=q1h (show ∀x∈all,PIn ps x by rw[b9.out];exact λx hx=>q27 a7 (ord_is a7 hx));clear d9;refine zU (λq=>(wq.tp q.tape).grownBy q none/\q.heap[X]?=some (.cells #[.slice yb ps.length yc,.int .i64 lim] 24 (0,0))/\qp 0 q.heap.size q (.slice yb ps.length yc) ps/\zu u2.heap.size q (.slice ab all.length ac) all) ⟨gb g2 (tpg G4.out),blk (w:=u2.tp T) G4.out (by simp) x2,(qp.kept (w:=u2.tp T) p2 G4.out (by simp)).mono (q4u _) G4.out.size,R4.out⟩ λu3 hF=>?_;obtain⟨g3,x3,p3,r3⟩:=hF;clear G4 R4 g2 x2 p2 c0;refine EL.seq D hb hs ?_;refine EL.piece D hb hs λT=>?_;go_wp2;refine EL.tape (wq:=u3) ?_ T;refine EL.seq D hb hs ?_;refine EL.piece D hb hs λT=>?_;go_wp2;refine EL.tape (wq:=u3) ?_ T;refine EL.seq D hb hs ?_;refine EL.piece D hb hs λT=>?_;have XR:=q1h λ(w:q2v) (h:(u3.tp T).grownBy w none)=>(blk h (by simp) (show(u3.tp T).heap[X]?=_ from x3):w.heap[X]?=_)
 have PR:=q1h λ(w:q2v) (h:(u3.tp T).grownBy w none)=>((qp.kept (w:=u3.tp T) p3 h (by simp)).mono (q4u _) h.size:qp 0 w.heap.size w (.slice yb ps.length yc) ps)
 have RR:=q1h λ(w:q2v) (h:(u3.tp T).grownBy w none)=>zu.kept (w:=u3.tp T) r3 h;have G3:=q1h g3;clear g3 x3 p3 r3;go_wp2;go_loopw [5,6,7] (λdv fv iv wr=>∃i:Nat,iv=.int .i64 i/\i<=all.length/\dv=.int .i64 ((all.take i).countP (qT ps lim):Nat)/\(u3.tp T).grownBy wr none/\qe 0 wr.heap.size wr fv (((all.take i).find? (qT ps lim)).getD [])) (λ_ _ iv _=>(all.length - qaq iv).toNat)
 case atStart=>exact⟨0,rfl,by omega,by simp,q7F _ _,by simpa using qe.nil _ _ _⟩
 case round =>
  obtain⟨i,rfl,hi,rfl,hG,hN⟩:=hrel;have c3:=q1h hG;have HN:=q1h hN;have c0:=q8 (XR.out _ hG) (o:=0) rfl;have c1:=q8 (XR.out _ hG) (o:=1) rfl;by_cases hlt:i<all.length
  ·obtain⟨x,hx⟩:∃x,all[i]?=some x:=⟨_,q7i hlt⟩
   have s2:(i:Int)<(all.length:Int):=by omega
   obtain⟨_,_,ea,n4⟩:=(RR.out _ hG).at;injection ea with ea1 _ ea3;subst ea1 ea3;obtain⟨AB,rfl,e9⟩:=n4 (by omega);obtain⟨y,hy,hyi⟩:=e9 i x hx;obtain⟨l8,l7,rfl,-,-⟩:=hyi.cell;have Z:=q1h (q60 (p:=qT ps lim) all i x hx);have hcl:(all.take i).countP (qT ps lim)<=120:=q6s List.countP_le_length (by rw[qca];omega);have HZ:=q1h (ZG (p:=qT ps lim) (all.take i));have HY:=q1h hyi;have k8:=qc wr none;have HC:=q1h (q1z ps lim x (.slice yb ps.length yc) _ wr.drew ((PR.out _ (c3.out.trans k8)).mono (q4u _) (q4u _)) (HY.out.kept k8 (by simp)) b8.out (q7.out x (q8u hx)));obtain⟨q,hq⟩:∃q,q=(all.take i).countP (qT ps lim):=⟨_,rfl⟩
   rw[<- hq] at hcl Z HZ ⊢;have r7:IntKind.i64.wrap ((q:Int)+1)=(q:Int)+1:=q9c _ (by omega);have m5:∀w5,wr.drew.grownBy w5 none->(u3.tp T).grownBy w5 none:=λw5 h=>(c3.out.trans (qc _ _)).trans h;have e7:=q1h m5;have a9:=q1h λ(w5:q2v) (h:wr.drew.grownBy w5 none)=>((qc wr none).trans h:wr.grownBy w5 none)
   clear hG hN n4 e9 hyi hx k8 hq m5;have hst:∀w5,wr.drew.grownBy w5 none->w5.cell? ⟨X,0,none⟩=some (.slice yb ps.length yc)/\w5.cell? ⟨X,1,none⟩=some (.int .i64 lim)/\w5.cell? ⟨AB,i,none⟩=some (.slice l8 x.length l7):=λw5 h=>⟨q8 (XR.out _ (e7.out _ h)) rfl,q8 (XR.out _ (e7.out _ h)) rfl,(a9.out _ h).cell hy (by simp)⟩
   have n8:=q1h hst;clear hst;go_upto_region 8 with(fail)
   refine qZ 10 (λw'=>w'.cell? ⟨X,0,none⟩=some (.slice yb ps.length yc)/\w'.cell? ⟨X,1,none⟩=some (.int .i64 lim)/\w'.cell? ⟨AB,i,none⟩=some (.slice l8 x.length l7)) (by kernel_rfl) (by kernel_rfl) ⟨c0,c1,hy⟩ (λl4=>?_);simp only[q7q,q82,q94,qb0,q8l,q9w,q9x,qal,q9k,q8G];refine tk 0 ?_;try go_frame
   refine tk 1 ?_;try go_frame
   refine tk 2 ?_;try go_frame
   refine tk 3 ?_;try go_frame
   refine tk 4 ?_;try go_frame
   refine rdy [5] ?_;refine cns 5 (λK hK=>?_) ?_
   ·go_simp
    go_at_call 37;refine HC.out.mono ?_;rintro e w6 ⟨v,c,rfl,hg,h1,h2⟩;have H6:=q1h (e7.out _ hg);have h9:=n8.out _ hg;have r6:=h9.2.2;have n6:=q1h ((HY.out.kept (a9.out _ hg) (by simp)).mono (q4u _) (a9.out _ hg).size);have e8:=q1h ((HN.out.kept (a9.out _ hg) (by simp)).mono (q4u _) (a9.out _ hg).size);refine hK.out _ _ h9 (λl4=>?_);clear hK K hg h9 HN HY HC n8 e7 a9;try go_frame
    refine tk 6 ?_;try go_frame
    refine tk 7 ?_;try go_frame
    refine tk 8 ?_;try go_frame
    refine tk 9 ?_;try go_frame
    refine⟨by kernel_rfl,?_⟩;simp only[qas,qbg];cases hf:qT ps lim x with
    | true =>
     rw[hf] at Z;obtain⟨rfl,rfl⟩:=h1 hf;clear h1 h2;by_cases e5:q=0
     ·have q3:((q:Int) == 0)=true:=by simp[e5]
      have hfz:=HZ.out.1 e5;rw[hfz] at Z;clear HZ hf e8;go_wp2;go_roundw
      case rel=>exact⟨i+1,by simp,by omega,by rw[Z.out.1,e5];simp,H6.out,by rw[Z.out.2];simpa using n6.out⟩
      case measure=>simp[qaq];omega
     ·have q3:((q:Int) == 0)=false:=by rw[beq_eq_false_iff_ne];omega
      have hfs:=mt HZ.out.2 e5;clear HZ hf;go_wp2;go_roundw
      case rel =>
       refine⟨i+1,by simp,by omega,by rw[Z.out.1];simp,H6.out,?_⟩;have h6:=e8.out;rw[Z.out.2];cases e:(all.take i).find? (qT ps lim) with
       | none=>exact absurd e hfs
       | some z=>rw[e] at h6;simpa using h6
      case measure=>simp[qaq];omega
    | false =>
     rw[hf] at Z;have d8:(all.take (i+1)).find? (qT ps lim)=(all.take i).find? (qT ps lim):=by rw[Z.out.2];simp
     have p8:=q1h d8;have h2:=h2 hf;clear hf HZ d8 h1 n6;by_cases ht:qO ps x<=lim
     ·obtain⟨hv,rfl⟩:=h2.1 ht
      have hv2:(v == 1)=false:=by rw[beq_eq_false_iff_ne];exact hv
      clear ht h2 hv;go_wp2;go_roundw
      case rel=>exact⟨i+1,by simp,by omega,by rw[Z.out.1];simp,H6.out,by rw[p8.out];exact e8.out⟩
      case measure=>simp[qaq];omega
     ·obtain rfl:=h2.2 ht
      clear ht h2;go_wp2;go_roundw
      case rel=>exact⟨i+1,by simp,by omega,by rw[Z.out.1];simp,H6.out,by rw[p8.out];exact e8.out⟩
      case measure=>simp[qaq];omega
   ·exact qm.nil
  ·obtain rfl:i=all.length:=by omega
   rw[qbp] at hN ⊢;replace HN:=q1h hN;have p9:=q1h (show all.countP (qT ps lim)=(yh (qS ps.length)).countP (qT ps lim) by rw[b9.out]);rw[p9.out];obtain⟨N,k9⟩:∃N,N=(yh (qS ps.length)).countP (qT ps lim):=⟨_,rfl⟩
   rw[<- k9] at p9 ⊢;have n9:=q1h k9;obtain⟨fb,fc,rfl,-,-⟩:=hN.cell;obtain⟨Fi,l5⟩:∃Fi,Fi=(all.find? (qT ps lim)).getD []:=⟨_,rfl⟩
   rw[<- l5] at HN ⊢;have r4:=q1h (l5.trans (by rw[b9.out]:_=((yh (qS ps.length)).find? (qT ps lim)).getD []));clear hG hN c0 c1 k9 l5;go_wp2;refine zU (λq=>(wq.tp q.tape).grownBy q none/\q.heap[X]?=some (.cells #[.slice yb ps.length yc,.int .i64 lim] 24 (0,0))/\qp 0 q.heap.size q (.slice yb ps.length yc) ps/\qe 0 q.heap.size q (.slice fb Fi.length fc) Fi) ⟨gb G3.out (tpg c3.out),XR.out _ c3.out,PR.out _ c3.out,HN.out⟩ λu4 hF=>?_;obtain⟨g4,x4,p4,f4⟩:=hF;clear XR PR RR G3 c3 HN;refine EL.seq D hb hs ?_;refine EL.piece D hb hs λT=>?_;have c0:=q8 (w:=u4.tp T) x4 (o:=0) rfl;have c1:=q8 (w:=u4.tp T) x4 (o:=1) rfl;go_wp2_with (first
    | (go_at_call 59;refine(q76 _ ps lim (u4.tp T) p4 b8.out).mono ?_;rintro e w5 ⟨rfl,m8⟩;rw[<- n9.out];have G5:=q1h m8;clear m8))
   refine zU (λq=>(wq.tp q.tape).grownBy q none/\q.heap[X]?=some (.cells #[.slice yb ps.length yc,.int .i64 lim] 24 (0,0))/\qp 0 q.heap.size q (.slice yb ps.length yc) ps/\qe 0 q.heap.size q (.slice fb Fi.length fc) Fi) ⟨gb g4 (tpg G5.out),blk (w:=u4.tp T) G5.out (by simp) x4,(qp.kept (w:=u4.tp T) p4 G5.out (by simp)).mono (q4u _) G5.out.size,f4.kn G5.out⟩ λu5 hF=>?_;obtain⟨g5,x5,p5,f5⟩:=hF;clear G5 g4 x4 p4 f4 c0 c1;refine EL.seq D hb hs ?_;refine EL.piece D hb hs λT=>?_;go_wp2;refine EL.tape (wq:=u5) ?_ T;refine EL.seq D hb hs ?_;refine EL.piece D hb hs λT=>?_;go_wp2;refine EL.tape (wq:=u5) ?_ T;refine EL.seq D hb hs ?_;refine EL.piece D hb hs λT=>?_;obtain⟨i0,b7,q2,q1,q0⟩:=qc4 Tryp.info3p;have c0:=q8 (w:=u5.tp T) x5 (o:=0) rfl;have r9:IntKind.i64.wrap ((ps.length:Int) - 1)=(ps.length:Int) - 1:=q9c _ (by omega);go_wp2;go_loopw [12,13] (λpv iv wr=>∃k:Nat,iv=.int .i64 ((ps.length:Int) - 1 - k)/\k<=ps.length/\(u5.tp T).grownBy wr none/\wr.ownsRow (u5.tp T).heap.size 3 1 pv k (((yC ps.length).take k).map (q8w .i64))) (λ_ iv _=>(qaq iv+1).toNat)
   case atStart=>exact⟨0,by simp,by omega,q7F _ _,by simpa using World.ownsRow_nil _ _ _ _⟩
   case round =>
    obtain⟨k,rfl,hk,hG,hO⟩:=hrel;have HG:=q1h hG;have HO:=q1h hO;by_cases q4:k<ps.length
    ·have h1:(0:Int)<=(ps.length:Int) - 1 - k:=by omega
     have r8:IntKind.i64.wrap ((ps.length:Int) - 1 - k - 1)=(ps.length:Int) - 1 - k - 1:=q9c _ (by omega);have s1:(u5.tp T).heap.size<=wr.heap.size:=hG.size;have r5:=q1h (show((yC ps.length).take (k+1)).map (q8w .i64)=((yC ps.length).take k).map (q8w .i64)++[.int .i64 ((ps.length:Int) - 1 - k)] by rw[qav,q9z _ _ q4];simp);obtain⟨pa,pc,rfl,-⟩:=vh hO;clear hG hO;go_wp2_with (first
      | (at_builtin;(refine wpList_append_own _ rfl _ _ 29 rfl (u5.tp T).heap.size 3 i0 _ 1 8 Tryp.und29' b7 q2 q1 q0 rfl (by decide) (.slice pa k pc) k _ rfl (HO.out.alloc _) ⟨wr.heap.size,0,none⟩ 1 1 [.int .i64 ((ps.length:Int) - 1 - k)] rfl rfl (qb3 (cs:=#[.int .i64 ((ps.length:Int) - 1 - k)]) (t:=3) (fr:=(0,0)) (q4F wr _)) (by simp[qbz]) (by unfold maxLen;omega) (by omega) (by simp;omega) ?_);intro v5 w5 hown c9 _;have HW:=q1h hown;have a9:=q1h c9;clear hown c9))
     have q5:=World.grownBy.andThen (row:=none) (HG.out.trans (q2j wr (.cells #[.int .i64 ((ps.length:Int) - 1 - k)] 3) none)) a9.out (λj e=>.inl (HO.out.lt j e).1);go_roundw
     case rel=>exact⟨k+1,by simp;omega,by omega,q5,by rw[r5.out];exact HW.out⟩
     case measure=>simp[qaq];omega
    ·obtain rfl:k=ps.length:=by omega
     have h1:¬ (0:Int)<=(ps.length:Int) - 1 - ps.length:=by omega
     have hd:=qe.own (l:=yC ps.length) (n:=ps.length) (by
      have h:=hO;rw[List.take_of_length_le (by rw[ZK];exact q4u _)] at h;exact h) (by rw[ZK];omega)
     obtain⟨db,dc,rfl,-,-⟩:=hd.cell;have HD:=q1h hd;clear hG hO hd;go_wp2;refine zU (λq=>(wq.tp q.tape).grownBy q none/\q.heap[X]?=some (.cells #[.slice yb ps.length yc,.int .i64 lim] 24 (0,0))/\qp 0 q.heap.size q (.slice yb ps.length yc) ps/\qe 0 q.heap.size q (.slice fb Fi.length fc) Fi/\qe 0 q.heap.size q (.slice db (yC ps.length).length dc) (yC ps.length)) ⟨gb g5 (tpg HG.out),blk (w:=u5.tp T) HG.out (by simp) x5,(qp.kept (w:=u5.tp T) p5 HG.out (by simp)).mono (q4u _) HG.out.size,f5.kn HG.out,HD.out.mono (q9j _) (q4u _)⟩ λu6 hF=>?_;obtain⟨g6,x6,p6,f6,d6⟩:=hF;clear HG HO HD g5 x5 p5 f5 c0;have e4:=q1h (q27 a7 (ZJ ps.length));have n7:=q1h (show ∀x∈yh (qS ps.length),qO ps x=qO ps (yC ps.length) from λx hx=>q3r ps ((ord_is a7 hx).trans (ZJ _).symm));have hSo:xS (yC ps.length) (qS ps.length):=by
      have:=Kx (l:=yC ps.length) (by rw[ZK];omega)
      rwa [q73 _ a7] at this
     refine EL.seq D hb hs ?_;refine EL.piece D hb hs λT=>?_;have c0:=q8 (w:=u6.tp T) x6 (o:=0) rfl;have c1:=q8 (w:=u6.tp T) x6 (o:=1) rfl;have l6:=q1h (q6i _ _ ps lim _ _ (u6.tp T) p6 d6 b8.out e4.out hSo (ZJ _));obtain⟨dn,n3⟩:∃dn,dn=yC ps.length:=⟨_,rfl⟩
     rw[<- n3] at l6 d6 e4 n7 ⊢;clear hSo n3;go_wp2_with (first
      | (go_at_call 56;refine l6.out.mono ?_;rintro e w7 ⟨v,c,rfl,m7,m4⟩;have G7:=q1h m7;have O7:=q1h m4;clear m7 m4))
     refine zU (λq=>(wq.tp q.tape).grownBy q none/\q.heap[X]?=some (.cells #[.slice yb ps.length yc,.int .i64 lim] 24 (0,0))/\qp 0 q.heap.size q (.slice yb ps.length yc) ps/\qe 0 q.heap.size q (.slice fb Fi.length fc) Fi/\qe 0 q.heap.size q (.slice db dn.length dc) dn/\OrdC ps lim dn (qS ps.length) 0 q v c) ⟨gb g6 (tpg G7.out),blk (w:=u6.tp T) G7.out (by simp) x6,(qp.kept (w:=u6.tp T) p6 G7.out (by simp)).mono (q4u _) G7.out.size,f6.kn G7.out,d6.kn G7.out,O7.out.imp id (Or.imp id λ⟨a,b,x,h1,h2⟩=>⟨a,b,x,h1,h2.mono (q9j _) (q4u _)⟩)⟩ λu7 hF=>?_;obtain⟨g7,x7,p7,f7,d7,o7⟩:=hF;clear l6 G7 O7 g6 x6 p6 f6 d6 c0 c1;have a6:=n9.out;rcases o7 with⟨ht,rfl,rfl⟩ | ⟨ht,hfn,rfl,rfl⟩ | ⟨ht,rfl,x,hfx,hix⟩
     ·have e6:N=0:=by
       rw[a6,List.countP_eq_zero];intro x hx h;unfold qT at h;rw[q85,decide_eq_true_eq,n7.out x hx] at h;exact ht h.1
      clear a6;subst e6;refine EL.seq D hb hs ?_;refine EL.seq D hb hs ?_;refine EL.piece D hb hs λT=>?_;have c0:=q8 (w:=u7.tp T) x7 (o:=0) rfl;have c1:=q8 (w:=u7.tp T) x7 (o:=1) rfl;have b0:=q1h (km _ _ ps lim _ (u7.tp T) p7 d7 b8.out e4.out);rw[show Qf ps lim dn=10 from if_neg ht] at b0;go_wp2_with (first
       | (go_at_call 49;refine b0.out.mono ?_;rintro e w8 ⟨rfl,a8⟩;have G8:=q1h a8;clear a8))
      refine zU (λq=>(wq.tp q.tape).grownBy q none) (gb g7 (tpg G8.out)) λu8 g8=>?_;refine EL.cond D hb hs true (by rfl) ?_;simp only[if_true];refine EL.seq D hb hs ?_;refine EL.region D hb hs ?_;simp only[q8H,q7q,q82,q94,q8l,q99,q9H];refine EL.list D hb hs [0,1,2,3,4,5,6,7,8,9,10,11] [_,_,_,_,_,_,_,_,_,_,_,_] (rest:=[12,13,14]) rfl λT3=>?_;go_wp2;refine EL.tape (wq:=u8) ?_ T3;refine EL.enter D hb hs (fk:=23) (args:=#[]) rfl rfl (λT=>by rw[run_call_body (f:=23) rfl Tryp.func23 (by kernel_rfl) rfl];walk_nrm) (qW 23 (by decide)) ?_;refine el23 D hok k6 hin ⟨_,Tryp.func19,Tryz.func19⟩ ?_ _ [qi 19] hb hs λv u hR=>?_
      ·obtain⟨cs,e,g,h0,b7⟩:=h0
       exact⟨cs,e,g,blk (w:=wq.tp u8.tape) g8 (by simp) h0,b7⟩
      obtain⟨rfl,d5⟩:=hR;rw[qbl];walk_nrm;refine EL.list D hb hs [13,14] [_,_] (rest:=[]) rfl λT4=>?_;go_wp2;refine EL.tape (wq:=u) ?_ T4;refine EL.region_end D hb hs ?_;refine EL.retS D hb hs ?_;exact EL.last c8 rfl rfl Tryz.func19 rfl rfl b6
     ·have e6:N=0:=a6.trans ((ZG _).2 hfn)
      clear a6;subst e6;refine EL.seq D hb hs ?_;refine EL.seq D hb hs ?_;refine EL.piece D hb hs λT=>?_;have c0:=q8 (w:=u7.tp T) x7 (o:=0) rfl;have c1:=q8 (w:=u7.tp T) x7 (o:=1) rfl;have b0:=q1h (km _ _ ps lim _ (u7.tp T) p7 d7 b8.out e4.out);rw[show Qf ps lim dn=0 from if_pos ht] at b0;go_wp2_with (first
       | (go_at_call 49;refine b0.out.mono ?_;rintro e w8 ⟨rfl,a8⟩;have G8:=q1h a8;clear a8))
      refine zU (λq=>(wq.tp q.tape).grownBy q none) (gb g7 (tpg G8.out)) λu8 g8=>?_;refine EL.cond D hb hs false (by rfl) ?_;refine EL.skip D hb hs ?_;refine EL.seq D hb hs ?_;refine EL.seq D hb hs ?_;refine EL.piece D hb hs λT=>?_;go_wp2;refine EL.tape (wq:=u8) ?_ T;refine EL.cond D hb hs true (by rfl) ?_;simp only[if_true];refine EL.seq D hb hs ?_;refine EL.region D hb hs ?_;simp only[q8H,q7q,q82,q94,q8l,q99,q9H];refine EL.list D hb hs [0,1,2,3,4,5,6,7] [_,_,_,_,_,_,_,_] (rest:=[8,9,10]) rfl λT3=>?_;go_wp2;refine EL.tape (wq:=u8) ?_ T3;refine EL.enter D hb hs (fk:=23) (args:=#[]) rfl rfl (λT=>by rw[run_call_body (f:=23) rfl Tryp.func23 (by kernel_rfl) rfl];walk_nrm) (qW 23 (by decide)) ?_;refine el23 D hok k6 hin ⟨_,Tryp.func19,Tryz.func19⟩ ?_ _ [qi 19] hb hs λv u hR=>?_
      ·obtain⟨cs,e,g,h0,b7⟩:=h0
       exact⟨cs,e,g,blk (w:=wq.tp u8.tape) g8 (by simp) h0,b7⟩
      obtain⟨rfl,d5⟩:=hR;rw[qbl];walk_nrm;refine EL.list D hb hs [9,10] [_,_] (rest:=[]) rfl λT4=>?_;go_wp2;refine EL.tape (wq:=u) ?_ T4;refine EL.region_end D hb hs ?_;refine EL.retS D hb hs ?_;exact EL.last c8 rfl rfl Tryz.func19 rfl rfl b6
     ·have e6:((N:Int) == 0)=false:=by
       rw[beq_eq_false_iff_ne];intro h;have h2:=(ZG _).1 (a6.symm.trans (by omega));rw[hfx] at h2;cases h2
      have q6:Fi=x:=by rw[r4.out,hfx];rfl
      clear a6;subst q6;obtain⟨xb,xc,rfl,-,-⟩:=hix.cell;refine EL.seq D hb hs ?_;refine EL.seq D hb hs ?_;refine EL.piece D hb hs λT=>?_;have c0:=q8 (w:=u7.tp T) x7 (o:=0) rfl;have c1:=q8 (w:=u7.tp T) x7 (o:=1) rfl;have b0:=q1h (km _ _ ps lim _ (u7.tp T) p7 d7 b8.out e4.out);rw[show Qf ps lim dn=0 from if_pos ht] at b0;go_wp2_with (first
       | (go_at_call 49;refine b0.out.mono ?_;rintro e w8 ⟨rfl,a8⟩;have G8:=q1h a8;clear a8))
      refine zU (λq=>(wq.tp q.tape).grownBy q none/\qe 0 q.heap.size q (.slice fb Fi.length fc) Fi/\qe 0 q.heap.size q (.slice xb Fi.length xc) Fi) ⟨gb g7 (tpg G8.out),f7.kn G8.out,hix.kn G8.out⟩ λu8 hF=>?_;obtain⟨g8,f8,h8⟩:=hF;refine EL.cond D hb hs false (by rfl) ?_;refine EL.skip D hb hs ?_;refine EL.seq D hb hs ?_;refine EL.seq D hb hs ?_;refine EL.piece D hb hs λT=>?_;go_wp2;refine EL.tape (wq:=u8) ?_ T;refine EL.cond D hb hs false (by rfl) ?_;refine EL.skip D hb hs ?_;refine EL.seq D hb hs ?_;refine EL.region D hb hs ?_;simp only[q8H,q7q,q82,q94,q8l,q99,q9H];refine EL.list D hb hs [0,1,2,3,4,5,6,7] [_,_,_,_,_,_,_,_] (rest:=[8,9,10]) rfl λT3=>?_;go_wp2_with (first
       | (go_at_call 31;refine(jN 0 u8.heap.size 0 u8.heap.size _ _ _ _ (u8.tp T3) h8 f8).mono ?_;rintro e w9 ⟨rfl,d5⟩;rw[decide_eq_true rfl];have G9:=q1h d5;clear d5))
      refine zU (λq=>(wq.tp q.tape).grownBy q none) (gb g8 (tpg G9.out)) λu9 g9=>?_;refine EL.enter D hb hs (fk:=23) (args:=#[]) rfl rfl (λT=>by rw[run_call_body (f:=23) rfl Tryp.func23 (by kernel_rfl) rfl];walk_nrm) (qW 23 (by decide)) ?_;refine el23 D hok k6 hin ⟨_,Tryp.func19,Tryz.func19⟩ ?_ _ [qi 19] hb hs λv u hR=>?_
      ·obtain⟨cs,e,g,h0,b7⟩:=h0
       exact⟨cs,e,g,blk (w:=wq.tp u9.tape) g9 (by simp) h0,b7⟩
      obtain⟨rfl,d5⟩:=hR;rw[qbl];walk_nrm;refine EL.list D hb hs [9,10] [_,_] (rest:=[]) rfl λT4=>?_;go_wp2;refine EL.tape (wq:=u) ?_ T4;refine EL.region_end D hb hs ?_;refine EL.retS D hb hs ?_;exact EL.last c8 rfl rfl Tryz.func19 rfl rfl b6
end
end Go.Proofs.YtidgnkmjgioapaaGreat
end
section
namespace Go.Proofs.YtidgnkmjgioapaaGreat
open Go Go.RowKit Go.Co Go.Sim Go.Conc Go.ConcN Go.ChangeShapes Go.WideShapes
theorem Tryz.own:ownKnob Tryz.prog.godebug=none:=by kernel_rfl
theorem Tryz.laidOut:laidOutB q7w=true:=by kernel_rfl
theorem q5q:Tryz.prog.globals.size=0:=by kernel_rfl
theorem start0:(begin q7w (λ_ _=>0) default).world.heap[0]?=some (.cells ((Array.range Tryz.prog.types.size).map λt=>.int .u64 (Int.ofNat t)) 0 (0,0)):=by kernel_rfl
def OpenAt0(w:q2v):Prop:=∃cs e f,w.heap[0]?=some (.cells cs e f)/\∀(i:Nat) v,cs[i]?=some v->∃k m,v=.int k m
theorem open0{w:q2v}(h:w.ShapedOpen q7w):OpenAt0 w:=by
 obtain⟨o,o0,h1,h2,h3⟩:=h.2 0 (by rw[q5q];exact q4u _) (q3h.1 start0).1;rw[start0] at h2;cases h2;rw[q5q,if_neg (by decide)] at h3;subst h3;refine⟨_,_,_,h1,λi v hv=>?_⟩;rw[Array.getElem?_map] at hv;cases hi:(Array.range Tryz.prog.types.size)[i]? with
 | none=>rw[hi] at hv;cases hv
 | some x=>rw[hi] at hv;cases hv;exact⟨_,_,rfl⟩
theorem two0:@Two (JS Tryp.prog q7w ls λ_=>False) Tryp.prog q7w :=
 @Two.mk (JS Tryp.prog q7w ls λ_=>False) _ _ (duoQP _) ⟨⟨JS Tryp.prog Tryp.prog ls λ_=>False⟩,up _,duoQQ _⟩ hrf stub85
def NumLaw(f:qam):Prop :=
 ∀ [J:JunkSet] {Post:q4k->q2v->Prop} {W:q2v},Two Tryp.prog q7w->JunkSet.okf 137->(∀i,¬ JunkSet.jk i)->∀{base:Option qai} {len cap:Nat} {wq:q2v},(len:Int)<=9223372036854775807 ->
  (0<len->∃lb lo,base=some ⟨lb,lo,none⟩/\∀i,i<len->∃x,wq.cell? ⟨lb,lo+i,none⟩=some (.int .i64 x))->qR wq 0 ->
  (∀w,(∀j,j<W.heap.size->w.heap[j]?=W.heap[j]?)->w.os=W.os->w.output=W.output->W.heap.size<=w.heap.size->Post (.bool true) w) ->
  EL Tryp.prog q7w f Post W (G (q9v Tryp.prog f #[.slice base len cap] .normal) [qi f]) wq
theorem q9a{f:qam}(hf:f≠85)(b6:lst.contains f=true)(b0:NumLaw f){Post:q4k->q2v->Prop}{W:q2v}{a0:Option qai}{len cap:Nat}(hsp:∀a,a0=some a->a.spot=none/\∃cs e g,W.heap[a.block]?=some (.cells cs e g))
  (hl:(len:Int)<=9223372036854775807) (hr:0<len->∃lb lo,a0=some ⟨lb,lo,none⟩/\∀i,i<len->∃x,W.cell? ⟨lb,lo+i,none⟩=some (.int .i64 x)) (h0:qR W 0)
  (a6:∀w,(∀j,j<W.heap.size->w.heap[j]?=W.heap[j]?)->w.os=W.os->w.output=W.output->W.heap.size<=w.heap.size->Post (.bool true) w) :
  Go.Co.Ends q7w Post (solo (G (q9v q7w f #[.slice a0 len cap] .normal) []) W) #[]:=by
 letI:JunkSet:=JS Tryp.prog q7w ls λ_=>False
 obtain⟨a9,e0,g0,a7,b8⟩:=h0;have b9:0<W.heap.size:=(q3h.1 a7).1
 let kn:Nat->Bool:=λi=>i == 0 || (match a0 with | some a=>i == a.block | none=>false)
 have b7:∀i,kn i=true->i<W.heap.size->∃cs e g,W.heap[i]?=some (.cells cs e g):=by
  intro i hi _;simp only[kn,qbC,beq_iff_eq] at hi;rcases hi with rfl | hi
  ·exact⟨_,_,_,a7⟩
  ·cases a0 with
   | none=>cases hi
   | some a =>
    have:i=a.block:=by simpa using hi
    rw[this];exact(hsp a rfl).2
 refine EL.begin (kn:=kn) (aq:=#[.slice a0 len cap]) two0 b6 (qW f hf) (λi h=>h) (by rw[q5q];exact b9) (λi hi=>?_) b7 ⟨rfl,λi x y hx hy=>?_⟩ ?_
 ·rw[q5q] at hi
  obtain rfl:i=0:=by omega
  rfl
 ·rw[hx] at hy
  cases hy;obtain rfl:x=.slice a0 len cap:=by
   rcases i with _ | i
   ·simpa using hx.symm
   ·simp at hx
  cases a0 with
  | none=>exact .sliceNil _ _
  | some a =>
   obtain⟨a8,cs,e,g,Z⟩:=hsp a rfl;obtain⟨b,o,sp⟩:=a;dsimp only at a8 Z;subst a8;exact .slice _ _ _ _ (vW.2 ⟨(q3h.1 Z).1,by simp[kn],rfl⟩)
 ·refine b0 two0 (by show lst.contains 137=true;rfl) (λi h=>h) hl (λhp=>?_) ⟨_,_,_,vj (by rfl) a7,λi v hv=>?_⟩ a6
  rotate_left
  ·have hsz:i<a9.size:=by have:=(q3h.1 hv).1;simpa[xd] using this
   obtain⟨k,m,e⟩:=b8 i _ (q8B hsz);rw[KN _ _ (show a9[i]?=some (.int k m) by rw[<- e];exact q8B hsz)] at hv;cases hv;exact⟨k,m,rfl⟩
  obtain⟨lb,lo,rfl,h⟩:=hr hp;refine⟨lb,lo,rfl,λi hi=>?_⟩;obtain⟨x,hx⟩:=h i hi;obtain⟨-,cs,e,g,Z⟩:=hsp _ rfl;refine⟨x,?_⟩;have hc:cs[lo+i]?=some (.int .i64 x):=by simpa[q9q,Z] using hx
  have:=vj (kn:=kn) (by simp[kn]) Z;simp only[q9q,this];exact KN _ _ hc
end Go.Proofs.YtidgnkmjgioapaaGreat
end
