/-
  Part 6 of the proof. gladstonelaw04.PileOff answers true for every list of numbers, and leaves its argument as it was. No conditions.
-/
import Derived.Test.YtidgnkmjgioapaaGreatJ2
import Derived.Test.YtidgnkmjgioapaaGreatRows
import Derived.Conc.LeavingOf
import Derived.Conc.HoldsTime
import Derived.ChangeSame
import Derived.ChangeVars
import Derived.JoinedOf
import Derived.RowKit
import Derived.RowKitTokens
import Derived.LaidHandle
import Derived.ProofKit
set_option maxRecDepth 100000
set_option maxHeartbeats 8000000
set_option linter.all false
open Array renaming getElem?_eq_getElem → q8d,getElem?_eq_some_iff → q2D
open Bool renaming or_eq_true → qbk
open Go renaming Addr → qa3,FuncId → qa4,Value → q40,World → q28,heap_alloc_new → q4m
open Go.Conc renaming base → q7A
open Go.Frame renaming enter → q96,finish_at → qbc
open Go.Lib renaming hid → q0B
open Go.Proofs.Tryz renaming prog → q78
open Go.RowKit renaming intOf → qak
open Go.World renaming cell? → q95,grownBy_alloc → q1E
open Go.World.grownBy renaming refl → q74
open List renaming all_eq_true → q9H,getElem?_append_left → q90,getElem?_eq_getElem → q68,length_cons → q6H,length_nil → q7r,length_take → qaD,mem_of_getElem? → q7u,range → q8z,size_toArray → q8o,take_add_one → qa7
open List.range renaming loop → q9t
open Nat renaming le_refl → q4c,reduceAdd → q8p,zero_add → q83,zero_le → q91
open Option renaming getD_some → q4n
section
namespace Go.Proofs.YtidgnkmjgioapaaGreat
theorem q20{g g':Nat->Int}(hg:∀i,g i<=g' i)(l:List Int)(k:Nat):loadAt g l k<=loadAt g' l k:=by
 have ht:∀t:List Int,tot (t.map λx=>g x.toNat)<=tot (t.map λx=>g' x.toNat):=λt=>by
  induction t with
  | nil=>exact Int.le_refl _
  | cons a t ih=>simp only[List.map_cons,tot];have:=hg a.toNat;omega
 exact ht _
theorem Kl{ps:List Par}{g g':Nat->Int}(hg:∀i,g i<=g' i){l:List Int}{k:Nat}(h:xx ps g' l k=true):xx ps g l k=true:=by
 unfold xx at h ⊢;split at h
 ·have:=q20 hg l k
  have:=of_decide_eq_true h;exact decide_eq_true (by omega)
 ·cases h
theorem JO{ps:List Par}{g:Nat->Int}{L:List Int}{x:Int}(hg:0<=g x.toNat){k:Nat}(hk:k<L.length)(h:xx ps g (L++[x]) k=true):xx ps g L k=true:=by
 unfold xx at h ⊢;rw[q90 hk,q1H _ _ _ _ hk] at h;split at h
 ·have:=of_decide_eq_true h
  exact decide_eq_true (by omega)
 ·cases h
theorem vu{ps:List Par}{g:Nat->Int}{l:List Int}:qr ps g l=true↔∀k,k<l.length->xx ps g l k=true:=by
 unfold qr;rw[q9H];exact⟨λh k hk=>h k (List.mem_range.2 hk),λh k hk=>h k (List.mem_range.1 hk)⟩
theorem ZE{ps:List Par}{g:Nat->Int}{L:List Int}{x:Int}(hg:0<=g x.toNat)(h:qr ps g (L++[x])=true):qr ps g L=true :=
 vu.2 λk hk=>JO hg hk (vu.1 h k (by simp;omega))
theorem KZ{ps:List Par}{g g':Nat->Int}(hg:∀i,g i<=g' i){l:List Int}(h:qr ps g' l=true):qr ps g l=true :=
 vu.2 λk hk=>Kl hg (vu.1 h k hk)
theorem q8l{a b c d:Bool}(h1:b=true->a=true)(h2:a=true->c=true)(h3:b=true->d=true):(xY a b=1/\xY c d=1)\/xY a b=2\/(xY a b=3/\¬ xY c d=2):=by
 revert h1 h2 h3;cases a<;>cases b<;>cases c<;>cases d<;>decide
theorem q3B{a b c d:Bool}(h1:b=true->a=true)(h2:a=true->c=true)(h3:b=true->d=true):(xY (!a) (!b)=2/\xY (!c) (!d)=2)\/xY (!a) (!b)=1\/(xY (!a) (!b)=3/\¬ xY (!c) (!d)=1):=by
 revert h1 h2 h3;cases a<;>cases b<;>cases c<;>cases d<;>decide
theorem YOk.le{ps:List Par}{lim:Int}(h:YOk ps lim)(i:Nat):pre Par.mn ps ps.length i<=pre Par.mx ps ps.length i:=by
 unfold pre;split
 ·rename_i hi
  rw[q68 hi];have:=h.each _ (List.getElem_mem hi);simp only;omega
 ·omega
theorem q3A{ps:List Par}{lim:Int}(h:YOk ps lim)(l:List Int)(i:Nat)(hi:i<l.length) :
  (yj ps (l.take (i+1))=1/\yj ps (l.take i)=1)\/yj ps (l.take (i+1))=2\/(yj ps (l.take (i+1))=3/\¬ yj ps (l.take i)=2):=by
 rw[qa7,q68 hi];exact q8l (KZ h.le) (ZE (h.mn _).1) (ZE (h.mx _).1)
theorem q5H{ps:List Par}{lim:Int}(h:YOk ps lim)(l:List Int)(i k:Nat)(hi:i<l.length)(hk:k<i) :
  (jM ps (pre Par.mn ps ps.length) (pre Par.mx ps ps.length) (l.take (i+1)) k=2/\jM ps (pre Par.mn ps ps.length) (pre Par.mx ps ps.length) (l.take i) k=2) \/
   jM ps (pre Par.mn ps ps.length) (pre Par.mx ps ps.length) (l.take (i+1)) k=1 \/
   (jM ps (pre Par.mn ps ps.length) (pre Par.mx ps ps.length) (l.take (i+1)) k=3/\¬ jM ps (pre Par.mn ps ps.length) (pre Par.mx ps ps.length) (l.take i) k=1):=by
 have Z:k<(l.take i).length:=by simp;omega
 rw[qa7,q68 hi];exact q3B (Kl h.le) (JO (h.mn _).1 Z) (JO (h.mx _).1 Z)
theorem Yw{ps:List Par}(h:∀p∈ps,0<=p.tall)(l:List Int):∀i,qO ps (l.take i)<=qO ps l:=by
 have h1:∀i,qO ps (l.take i)<=qO ps (l.take (i+1)):=λi=>by
  cases e:l[i]? with
  | none=>rw[qa7,e];simp
  | some x =>
   rw[Jr ps l i x e];have:0<=yU ps x:=by
    unfold yU;split
    ·rename_i p hp;exact h p (q7u hp)
    ·exact Int.le_refl _
   omega
 intro i;have h2:∀d,qO ps (l.take i)<=qO ps (l.take (i+d)):=λd=>by
  induction d with
  | zero=>exact Int.le_refl _
  | succ d ih=>exact Int.le_trans ih (h1 (i+d))
 have:=h2 l.length
 rwa [List.take_of_length_le (by omega:l.length<=i+l.length)] at this
theorem POk.take{ps:List Par}{lim:Int}{l:List Int}(h:POk ps lim l)(hy:YOk ps lim)(i:Nat):POk ps lim (l.take i) :=
 ⟨λx hx=>h.ok x (List.mem_of_mem_take hx),h.nd.sublist (List.take_sublist _ _),Int.le_trans (Yw (λp hp=>by have:=hy.each p hp;omega) l i) h.tall,by have:=h.len;simp;omega⟩
theorem qe.take{lo hi:Nat}{w:q28}{b:Option qa3}{c:Nat}{l:List Int}(h:qe lo hi w (.slice b l.length c) l){j:Nat}(hj:j<=l.length):qe lo hi w (.slice b j c) (l.take j):=by
 obtain⟨b1,c1,e,hl,hr⟩:=h;cases e;refine⟨b,c,by simp[Nat.min_eq_left hj],by simp;omega,λhne=>?_⟩;obtain⟨B,o,cs,fr,e1,e2,e3,e4,e5⟩:=hr (by rintro rfl;simp at hne);refine⟨B,o,cs,fr,e1,e2,e3,e4,λi hi=>?_⟩;have Z:i<j:=by simp at hi;omega
 rw[List.getElem?_take,if_pos Z];exact e5 i (by omega)
theorem Yg(ps:List Par)(gm gx:Nat->Int)(l:List Int)(k:Nat)(h:k<l.length):(j3 ps gm gx l)[k]?.getD 0=jM ps gm gx l k:=by simp[j3,h]
def lenOf:q40->Nat
 | .slice _ n _=>n
 | _=>0
end Go.Proofs.YtidgnkmjgioapaaGreat
end
section
namespace Go.Proofs.YtidgnkmjgioapaaGreat
open Go Go.RowKit Go.Co Go.Sim Go.Conc Go.ConcN
section
variable[J:JunkSet]{Post:q40->q28->Prop}{W:q28}
theorem el17(D:Two Tryp.prog q78)(hok:JunkSet.okf 137)(l8:∀i,¬ JunkSet.jk i)(hin:Tryp.prog.inits.idxOf? 17=none)(h8:Tryz.prog.inits.idxOf? 17=none){base:Option qa3}{len cap:Nat}
  {wq:q28} (hl:(len:Int)<=9223372036854775807) (hr:0<len->∃lb lo,base=some ⟨lb,lo,none⟩/\∀i,i<len->∃x,wq.cell? ⟨lb,lo+i,none⟩=some (.int .i64 x)) (h0:qR wq 0)
  (d7:∀w,(∀j,j<W.heap.size->w.heap[j]?=W.heap[j]?)->w.os=W.os->w.output=W.output->W.heap.size<=w.heap.size->Post (.bool true) w) :
  EL Tryp.prog q78 17 Post W (G (q96 Tryp.prog 17 #[.slice base len cap] .normal) [qj 17]) wq:=by
 have hs:Tryp.prog.funcs[(q7A 17).fn]?=Tryz.prog.funcs[(q7A 17).fn]?:=z8 17 (by decide);have hb:Bot 17 [qj 17]:=⟨[],rfl⟩
 rw[q69 (fn:=Tryz.f17) (c0:=Tryz.f17.body.getD .skip) Tryp.func17 (by kernel_rfl)];simp only[Tryz.f17,q4n];walk_nrm;refine EL.seq D hb hs ?_;refine EL.piece D hb hs λT=>?_;go_wp2;refine EL.tape (wq:=wq) ?_ T;refine EL.seq D hb hs ?_;refine EL.piece D hb hs λT=>?_;have HR:=q0B hr;clear hr;go_wp2_with (first
  | (go_at_call 24;refine(q3D base len cap (wq.tp T) hl HR.out).mono ?_;rintro e w2 ⟨rfl,k0,e7⟩;have G2:=q0B k0;have T2:=q0B e7;clear k0 e7))
 obtain⟨b,e5⟩:∃b,b=(wq.tp T).heap.size:=⟨_,rfl⟩
 rw[<- e5] at T2 ⊢;have l6:=q0B (show b=wq.heap.size from e5);refine yC (λu=>(wq.tp u.tape).grownBy u none/\qS u b 0) ⟨tpg G2.out,T2.out⟩ λu1 hF=>?_;obtain⟨g1,t1⟩:=hF;clear G2 T2 e5 HR;refine EL.seq D hb hs ?_;refine EL.piece D hb hs λT=>?_;go_wp2_with (first
  | (go_at_call 33;refine(q2F b 0 5 (u1.tp T) t1 (by omega) (by omega)).mono ?_;rintro e w2 ⟨ps,lim,yv,e6,rfl,g7,d8⟩;have N2:=q0B g7;have P2:=q0B d8;have YD:=q0B e6;obtain⟨yb,yc,rfl,-,-⟩:=d8.cell;clear g7 d8 e6))
 obtain⟨X,hX⟩:∃X,X=w2.heap.size:=⟨_,rfl⟩
 rw[<- hX];have k5:b<u1.heap.size:=t1.lt;have e4:=q1E w2 (.cells #[.slice yb ps.length yc,.int .i64 lim] 24) none;refine yC (λq=>(wq.tp q.tape).grownBy q none/\qS q b 38/\q.heap[X]?=some (.cells #[.slice yb ps.length yc,.int .i64 lim] 24 (0,0))/\qu u1.heap.size q.heap.size q (.slice yb ps.length yc) ps) ⟨gb (gnew g1 (tpg N2.out.1) (Nat.le_of_eq l6.out.symm)) (tpg (T:=w2.tape) e4),N2.out.2.alloc _,by rw[hX];exact q4m _ _,(P2.out.alloc _).mono (q4c _) e4.size⟩ λu2 hF=>?_;obtain⟨g2,t2,x2,p2⟩:=hF;have d5:=YD.out.yok (q4c _);have Z:=q0B d5;clear e4 N2 P2 hX g1 t1 YD d5;refine EL.seq D hb hs ?_;refine EL.piece D hb hs λT=>?_;have c0:=q9 (w:=u2.tp T) x2 (o:=0) rfl;have c1:=q9 (w:=u2.tp T) x2 (o:=1) rfl;go_wp2_with (first
  | (go_at_call 34;refine(q3H b 38 u1.heap.size _ ps lim (u2.tp T) t2 (by omega) p2 k5 Z.out.len (by have:=Z.out.l1;omega) (by have:=Z.out.l2;omega) (λp hp=>by have:=Z.out.each p hp;omega)).mono ?_;rintro e w3 ⟨l,lv,g5,rfl,g6,d9,b6⟩;have N3:=q0B g6;have I3:=q0B d9;have PK:=q0B g5;obtain⟨lb,lc,rfl,-,-⟩:=d9.cell;have l5:=q0B (b6 _ _ _ rfl);clear g6 d9 g5 b6))
 have k6:b≠X:=λe=>by
  have h:=x2;obtain⟨_,_,_,_,_,_,m4,_⟩:=t2;rw[<- e,m4] at h;injection h with h;injection h with _ h _;exact absurd h (by decide)
 refine yC (λq=>(wq.tp q.tape).grownBy q none/\q.heap[X]?=some (.cells #[.slice yb ps.length yc,.int .i64 lim] 24 (0,0))/\qu 0 q.heap.size q (.slice yb ps.length yc) ps/\qe 0 q.heap.size q (.slice lb l.length lc) l) ⟨gnew g2 (tpg N3.out.1) (Nat.le_of_eq l6.out.symm),blk (w:=u2.tp T) N3.out.1 (by simpa using k6.symm) x2,(qu.kept (w:=u2.tp T) p2 N3.out.1 (λR e=>by cases e;exact .inl k5)).mono (q91 _) N3.out.1.size,I3.out.mono (q91 _) (q4c _)⟩ λu3 hF=>?_;obtain⟨g3,x3,p3,l3⟩:=hF;clear N3 I3 g2 t2 x2 p2 c0 c1 k6;refine EL.seq D hb hs ?_;refine EL.piece D hb hs λT=>?_;have e8:∀w,(u3.tp T).grownBy w none->w.cell? ⟨X,0,none⟩=some (.slice yb ps.length yc)/\w.cell? ⟨X,1,none⟩=some (.int .i64 lim):=λw h=>⟨q9 (blk h (by simp) (show(u3.tp T).heap[X]?=_ from x3)) rfl,q9 (blk h (by simp) (show(u3.tp T).heap[X]?=_ from x3)) rfl⟩
 have e9:∀w,(u3.tp T).grownBy w none->qu 0 w.heap.size w (.slice yb ps.length yc) ps:=λw h=>(qu.kept (w:=u3.tp T) p3 h (by simp)).mono (q4c _) h.size;have g9:∀w,(u3.tp T).grownBy w none->∀j,j<=l.length->qe 0 w.heap.size w (.slice lb j lc) (l.take j):=λw h j hj=>(qe.take (qe.kept (w:=u3.tp T) l3 h (by simp)) hj).mono (q4c _) h.size;have SC:=q0B e8;have PR:=q0B e9;have LR:=q0B g9;have b8:=q0B λj=>PK.out.take Z.out j;have n7:l.length<=100:=PK.out.len;have m6:=Z.out.len;have G3:=q0B g3;clear e8 e9 g9 p3 l3 x3 g3;go_wp2;go_loopw [5] (λlv wr=>∃j:Nat,lv=.slice lb j lc/\j<=l.length/\(u3.tp T).grownBy wr none) (λlv _=>lenOf lv)
 case atStart=>exact⟨l.length,rfl,q4c _,q74 _ _⟩
 case round =>
  obtain⟨j,rfl,hj,hG⟩:=hrel;have a8:=q0B hG;obtain⟨s0,s1⟩:=SC.out _ a8.out;clear hG;rcases j with _ | i
  ·go_wp2
   refine yC (λq=>(wq.tp q.tape).grownBy q none) (gb G3.out (tpg a8.out)) λu8 g8=>?_;clear SC PR LR b8 G3 a8 s0 s1;refine EL.seq D hb hs ?_;refine EL.region D hb hs ?_;simp only[q8o,q6H,q7r,q8p,q83,q8z,q9t];refine EL.enter D hb hs (fk:=23) (args:=#[]) rfl rfl (λT=>by rw[run_call_body (f:=23) rfl Tryp.func23 (by kernel_rfl) rfl];walk_nrm) (z8 23 (by decide)) ?_;refine el23 D hok l8 hin ⟨_,Tryp.func17,Tryz.func17⟩ ?_ _ [qj 17] hb hs λv u hR=>?_
   ·obtain⟨cs,e,g,h0,m3⟩:=h0
    exact⟨cs,e,g,blk (w:=wq.tp u8.tape) g8 (by simp) h0,m3⟩
   obtain⟨rfl,n9⟩:=hR;rw[qbc];walk_nrm;refine EL.list D hb hs [1] [_] (rest:=[]) rfl λT4=>?_;go_wp2;refine EL.tape (wq:=u) ?_ T4;refine EL.region_end D hb hs ?_;refine EL.retS D hb hs ?_;exact EL.last h8 rfl rfl Tryz.func17 rfl rfl d7
  ·have n8:(0:Int)<((i+1:Nat):Int):=by omega
   have h9:i<l.length:=by omega
   have l9:i<=lc:=by have:=l5.out;omega
   obtain⟨v,hv⟩:∃v,v=yj ps (l.take (i+1)):=⟨_,rfl⟩
   obtain⟨v',d6⟩:∃v',v'=yj ps (l.take i):=⟨_,rfl⟩
   have b0:=q3A Z.out l i h9;rw[<- hv,<- d6] at b0;have HV:=q0B hv;have k8:=q0B d6;have k9:=q0B b0;clear hv d6 b0;have n6:True:=trivial;go_wp2_with (fail);refine(Zj 0 wr.heap.size _ _ ps lim (l.take (i+1)) wr (PR.out _ a8.out) (LR.out _ a8.out _ (by omega)) (q4c _) Z.out (b8.out _)).mono ?_;rintro e w1 ⟨rfl,hg⟩;rw[<- HV.out];have c9:=q0B (a8.out.trans hg);obtain⟨s0,s1⟩:=SC.out _ c9.out;clear hg;go_wp2_with (fail);refine(q2q 0 w1.heap.size _ _ ps lim (l.take (i+1)) w1 (PR.out _ c9.out) (LR.out _ c9.out _ (by omega)) (q4c _) Z.out (b8.out _)).mono ?_;rintro e w2 ⟨cv,rfl,hg,hi⟩;obtain⟨n4,n2,rfl,-,-⟩:=hi.cell;have hcl:(j3 ps (pre Par.mn ps ps.length) (pre Par.mx ps ps.length) (l.take (i+1))).length=i+1:=by rw[QD,qaD];omega
   rw[hcl] at hi ⊢;have b9:=q0B (hi.mono (q91 _) (q4c _));have c8:=q0B (c9.out.trans hg);obtain⟨s0,s1⟩:=SC.out _ c8.out;clear hg hi hcl;go_wp2_with (fail);refine(Zj 0 w2.heap.size _ _ ps lim (l.take (i)) w2 (PR.out _ c8.out) (LR.out _ c8.out _ (by omega)) (q4c _) Z.out (b8.out _)).mono ?_;rintro e w3 ⟨rfl,hg⟩;rw[<- k8.out];have b9:=q0B ((b9.out.kept hg (by simp)).mono (q4c _) hg.size);have c3:=q0B (c8.out.trans hg);obtain⟨s0,s1⟩:=SC.out _ c3.out;clear hg;go_wp2_with (fail);refine(q2q 0 w3.heap.size _ _ ps lim (l.take (i)) w3 (PR.out _ c3.out) (LR.out _ c3.out _ (by omega)) (q4c _) Z.out (b8.out _)).mono ?_;rintro e w4 ⟨cv,rfl,hg,hi⟩;obtain⟨n3,m9,rfl,-,-⟩:=hi.cell;have hcl:(j3 ps (pre Par.mn ps ps.length) (pre Par.mx ps ps.length) (l.take (i))).length=i:=by rw[QD,qaD];omega
   rw[hcl] at hi ⊢;have m5:=q0B (hi.mono (q91 _) (q4c _));have b9:=q0B ((b9.out.kept hg (by simp)).mono (q4c _) hg.size);have k7:=q0B (c3.out.trans hg);obtain⟨s0,s1⟩:=SC.out _ k7.out;clear hg hi hcl;have b0:(v=1/\v'=1)\/v=2\/(v=3/\¬ v'=2):=k9.out;clear k9 HV k8;rcases b0 with⟨rfl,rfl⟩ | rfl | ⟨rfl,hv2⟩
   all_goals
    go_upto_region 12 with(fail)
    go_wp2;go_loopw [14] (λiv wi=>∃k:Nat,iv=.int .i64 k/\k<=i/\w4.grownBy wi none) (λiv _=>(i - qak iv).toNat)
    case atStart=>exact⟨0,rfl,by omega,q74 _ _⟩
    case round =>
     obtain⟨k,rfl,hk,b7⟩:=hrel;have l4:=q0B b7;by_cases l7:k<i
     ·obtain⟨mb,mc,em,-,hmc⟩:=(b9.out.kept b7 (by simp)).cell
      injection em with em1 em2 em3;subst em1 em3;obtain⟨MB,mo,rfl,-,-,-,a7⟩:=hmc (by intro e;rw[e] at em2;simp at em2);have x1:=a7 k (by omega);rw[Yg _ _ _ _ _ (by rw[qaD];omega)] at x1;obtain⟨nb,nc,en,-,hnc⟩:=(m5.out.kept b7 (by simp)).cell;injection en with en1 en2 en3;subst en1 en3;obtain⟨NB,no,rfl,-,-,-,a6⟩:=hnc (by intro e;rw[e] at en2;simp at en2;omega);have x2:=a6 k (by omega);rw[Yg _ _ _ _ _ (by rw[qaD];omega)] at x2;have a9:=q5H Z.out l i k h9 l7;have m8:(k:Int)<(i:Int):=by omega
      have m7:(k:Int)<((i+1:Nat):Int):=by omega
      generalize jM ps (pre Par.mn ps ps.length) (pre Par.mx ps ps.length) (l.take (i+1)) k=m at x1 a9;generalize jM ps (pre Par.mn ps ps.length) (pre Par.mx ps ps.length) (l.take i) k=n at x2 a9;clear b7 hmc a7 hnc a6 em2 en2;rcases a9 with⟨rfl,rfl⟩ | rfl | ⟨rfl,hn1⟩
      all_goals
       go_wp2_with (fail);go_quiet (fail);go_wp2_with (fail);go_roundw
       case rel=>exact⟨k+1,by simp,by omega,l4.out.trans (qi _ _ _)⟩
       case measure=>simp[qak];omega
     ·obtain rfl:k=i:=by omega
      clear b7;go_wp2;go_roundw
      case rel=>exact⟨k,rfl,by omega,k7.out.trans l4.out⟩
      case measure=>simp[lenOf]
end
end Go.Proofs.YtidgnkmjgioapaaGreat
end
section
namespace Go.Proofs.YtidgnkmjgioapaaGreat
open Go Go.RowKit Go.Co Go.Sim Go.Conc Go.ConcN Go.ChangeShapes Go.WideShapes
theorem Tryz.own:ownKnob Tryz.prog.godebug=none:=by kernel_rfl
theorem Tryz.laidOut:laidOutB q78=true:=by kernel_rfl
theorem q58:Tryz.prog.globals.size=0:=by kernel_rfl
theorem start0:(begin q78 (λ_ _=>0) default).world.heap[0]?=some (.cells ((Array.range Tryz.prog.types.size).map λt=>.int .u64 (Int.ofNat t)) 0 (0,0)):=by kernel_rfl
def OpenAt0(w:q28):Prop:=∃cs e f,w.heap[0]?=some (.cells cs e f)/\∀(i:Nat) v,cs[i]?=some v->∃k m,v=.int k m
theorem open0{w:q28}(h:w.ShapedOpen q78):OpenAt0 w:=by
 obtain⟨o,o0,h1,h2,h3⟩:=h.2 0 (by rw[q58];exact q4c _) (q2D.1 start0).1;rw[start0] at h2;cases h2;rw[q58,if_neg (by decide)] at h3;subst h3;refine⟨_,_,_,h1,λi v hv=>?_⟩;rw[Array.getElem?_map] at hv;cases hi:(Array.range Tryz.prog.types.size)[i]? with
 | none=>rw[hi] at hv;cases hv
 | some x=>rw[hi] at hv;cases hv;exact⟨_,_,rfl⟩
theorem two0:@Two (JS Tryp.prog q78 ls λ_=>False) Tryp.prog q78 :=
 @Two.mk (JS Tryp.prog q78 ls λ_=>False) _ _ (duoQP _) ⟨⟨JS Tryp.prog Tryp.prog ls λ_=>False⟩,up _,duoQQ _⟩ hrf stub85
def NumLaw(f:qa4):Prop :=
 ∀ [J:JunkSet] {Post:q40->q28->Prop} {W:q28},Two Tryp.prog q78->JunkSet.okf 137->(∀i,¬ JunkSet.jk i)->∀{base:Option qa3} {len cap:Nat} {wq:q28},(len:Int)<=9223372036854775807 ->
  (0<len->∃lb lo,base=some ⟨lb,lo,none⟩/\∀i,i<len->∃x,wq.cell? ⟨lb,lo+i,none⟩=some (.int .i64 x))->qR wq 0 ->
  (∀w,(∀j,j<W.heap.size->w.heap[j]?=W.heap[j]?)->w.os=W.os->w.output=W.output->W.heap.size<=w.heap.size->Post (.bool true) w) ->
  EL Tryp.prog q78 f Post W (G (q96 Tryp.prog f #[.slice base len cap] .normal) [qj f]) wq
theorem q8A{f:qa4}(hf:f≠85)(b6:lst.contains f=true)(b0:NumLaw f){Post:q40->q28->Prop}{W:q28}{a0:Option qa3}{len cap:Nat}(hsp:∀a,a0=some a->a.spot=none/\∃cs e g,W.heap[a.block]?=some (.cells cs e g))
  (hl:(len:Int)<=9223372036854775807) (hr:0<len->∃lb lo,a0=some ⟨lb,lo,none⟩/\∀i,i<len->∃x,W.cell? ⟨lb,lo+i,none⟩=some (.int .i64 x)) (h0:qR W 0)
  (a6:∀w,(∀j,j<W.heap.size->w.heap[j]?=W.heap[j]?)->w.os=W.os->w.output=W.output->W.heap.size<=w.heap.size->Post (.bool true) w) :
  Go.Co.Ends q78 Post (solo (G (q96 q78 f #[.slice a0 len cap] .normal) []) W) #[]:=by
 letI:JunkSet:=JS Tryp.prog q78 ls λ_=>False
 obtain⟨a9,e0,g0,a7,b8⟩:=h0;have b9:0<W.heap.size:=(q2D.1 a7).1
 let kn:Nat->Bool:=λi=>i == 0 || (match a0 with | some a=>i == a.block | none=>false)
 have b7:∀i,kn i=true->i<W.heap.size->∃cs e g,W.heap[i]?=some (.cells cs e g):=by
  intro i hi _;simp only[kn,qbk,beq_iff_eq] at hi;rcases hi with rfl | hi
  ·exact⟨_,_,_,a7⟩
  ·cases a0 with
   | none=>cases hi
   | some a =>
    have:i=a.block:=by simpa using hi
    rw[this];exact(hsp a rfl).2
 refine EL.begin (kn:=kn) (aq:=#[.slice a0 len cap]) two0 b6 (z8 f hf) (λi h=>h) (by rw[q58];exact b9) (λi hi=>?_) b7 ⟨rfl,λi x y hx hy=>?_⟩ ?_
 ·rw[q58] at hi
  obtain rfl:i=0:=by omega
  rfl
 ·rw[hx] at hy
  cases hy;obtain rfl:x=.slice a0 len cap:=by
   rcases i with _ | i
   ·simpa using hx.symm
   ·simp at hx
  cases a0 with
  | none=>exact .sliceNil _ _
  | some a =>
   obtain⟨a8,cs,e,g,Z⟩:=hsp a rfl;obtain⟨b,o,sp⟩:=a;dsimp only at a8 Z;subst a8;exact .slice _ _ _ _ (vO.2 ⟨(q2D.1 Z).1,by simp[kn],rfl⟩)
 ·refine b0 two0 (by show lst.contains 137=true;rfl) (λi h=>h) hl (λhp=>?_) ⟨_,_,_,kW (by rfl) a7,λi v hv=>?_⟩ a6
  rotate_left
  ·have hsz:i<a9.size:=by have:=(q2D.1 hv).1;simpa[vU] using this
   obtain⟨k,m,e⟩:=b8 i _ (q8d hsz);rw[Kw _ _ (show a9[i]?=some (.int k m) by rw[<- e];exact q8d hsz)] at hv;cases hv;exact⟨k,m,rfl⟩
  obtain⟨lb,lo,rfl,h⟩:=hr hp;refine⟨lb,lo,rfl,λi hi=>?_⟩;obtain⟨x,hx⟩:=h i hi;obtain⟨-,cs,e,g,Z⟩:=hsp _ rfl;refine⟨x,?_⟩;have hc:cs[lo+i]?=some (.int .i64 x):=by simpa[q95,Z] using hx
  have:=kW (kn:=kn) (by simp[kn]) Z;simp only[q95,this];exact Kw _ _ hc
end Go.Proofs.YtidgnkmjgioapaaGreat
end
