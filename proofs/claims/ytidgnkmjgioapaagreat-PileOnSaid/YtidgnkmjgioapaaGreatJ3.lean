/-
  Part 6 of the proof. gladstonelaw04.PileOn answers true for every list of numbers, and leaves its argument as it was. No conditions.
-/
import Derived.Test.YtidgnkmjgioapaaGreatJ2
import Derived.Test.YtidgnkmjgioapaaGreatRows
import Derived.Conc.LeavingOf
import Derived.Conc.HoldsTime
import Derived.ChangeSame
import Derived.ChangeVars
import Derived.JoinedOf
import Derived.RowKit
import Derived.RowKitTokens
import Derived.LaidHandle
import Derived.ProofKit
set_option maxRecDepth 100000
set_option maxHeartbeats 8000000
set_option linter.all false
open Array renaming getElem?_eq_getElem → q81,getElem?_eq_some_iff → q21
open Bool renaming and_eq_true → q78,or_eq_true → qb6
open Go renaming Addr → q9q,FuncId → q9t,Value → q2v,World → q1A,heap_alloc_new → q46
open Go.Conc renaming base → q7z
open Go.Frame renaming enter → q8z,finish_at → qaF
open Go.IntWalk renaming i64_in → q8f
open Go.Lib renaming hid → q0y
open Go.Proofs.Tryz renaming prog → q6w
open Go.RowKit renaming intOf → q9G
open Go.Value renaming int → q83,oneCell' → qb3
open Go.World renaming cell? → q8y,grownBy_alloc → q1u,news_of_block → qac,ownsRow_nil → qaB
open Go.World.grownBy renaming refl → q6D
open List renaming all_eq_true → q9w,cons_append → q7i,getElem?_append_left → q8p,getElem?_append_right → qan,getElem?_eq_getElem → q48,getElem?_eq_some_iff → q7a,length_append → q9y,length_cons → q6t,length_filter_le → qah,length_nil → q7f,map_append → qa7,mem_of_getElem? → q6F,range → q8u,size_toArray → q8b,take_length → qar
open List.range renaming loop → q9i
open Nat renaming le_refl → q3t,reduceAdd → q86,zero_add → q7o,zero_le → q8m
open Option renaming getD_some → q47
section
namespace Go.Proofs.YtidgnkmjgioapaaGreat
theorem q71(l:List Int)(x:Int):tot (l++[x])=tot l+x:=by
 induction l with
 | nil=>simp[tot]
 | cons a t ih=>simp only[q7i,tot,ih];omega
theorem ZD(g:Nat->Int)(l:List Int)(x:Int)(i:Nat)(h:i<l.length):loadAt g (l++[x]) i=loadAt g l i+g x.toNat:=by
 unfold loadAt;rw[List.drop_append_of_le_length (by omega),qa7];exact q71 _ _
theorem Jv(ps:List Par)(g:Nat->Int)(l:List Int)(m:Int)(hm:m<=30):∀k,(∀j,j<k->(ps[(l[j]?.getD 0).toNat]?).isSome)->(m<=qI ps g l k↔∀j p,j<k->ps[(l[j]?.getD 0).toNat]?=some p->loadAt g l j+m<=p.bears)
 | 0,_=>by simp[qI,hm]
 | k+1,h=>by
  have ih:=Jv ps g l m hm k λj hj=>h j (by omega);obtain⟨p,hp⟩:=Option.isSome_iff_exists.1 (h k (by omega));simp only[qI,hp];rw[Int.le_min,ih];constructor
  ·rintro⟨h1,h2⟩ j q hj hq
   by_cases e:j=k
   ·subst e
    rw[hp] at hq;cases hq;omega
   ·exact h1 j q (by omega) hq
  ·intro h1
   have:=h1 k p (by omega) hp;exact⟨λj q hj=>h1 j q (by omega),by omega⟩
theorem Zy(ps:List Par){g g':Nat->Int}(l:List Int)(hg:∀i,g i<=g' i):∀k,qI ps g' l k<=qI ps g l k
 | 0=>Int.le_refl _
 | k+1=>by
  have ih:=Zy ps l hg k;have ht:∀t:List Int,tot (t.map λx=>g x.toNat)<=tot (t.map λx=>g' x.toNat):=λt=>by
   induction t with
   | nil=>exact Int.le_refl _
   | cons a t ih=>simp only[List.map_cons,tot];have:=hg a.toNat;omega
  have hl:loadAt g l k<=loadAt g' l k:=ht _;simp only[qI];split<;>omega
theorem KU(ps:List Par)(g:Nat->Int)(l:List Int)(n:Int)(hl:∀x∈l,0<=x/\x<ps.length)(hn:0<=n/\n<ps.length)(hb:∀p∈ps,0<=p.bears)(hg:g n.toNat<=30) :
  qw ps g (l++[n])=decide (l.length=0\/g n.toNat<=qI ps g l l.length):=by
 have Z:∀x,0<=x/\x<(ps.length:Int)->∃p,ps[x.toNat]?=some p:=λx hx=>⟨_,q48 (by omega)⟩
 have a6:∀j,j<l.length->∃p,ps[(l[j]?.getD 0).toNat]?=some p:=λj hj=>by
  rw[q48 hj];exact Z _ (hl _ (List.getElem_mem hj))
 have h1:=Jv ps g l (g n.toNat) hg l.length λj hj=>by obtain⟨p,hp⟩:=a6 j hj;rw[hp];rfl
 rw[Bool.eq_iff_iff,decide_eq_true_eq];unfold qw;rw[q9w];constructor
 ·intro h
  right;rw[h1];intro j p hj hp;have:=h j (by simp;omega);unfold okAt at this;rw[q8p hj,hp,ZD g l n j hj] at this;simpa using this
 ·intro h j hj
  simp at hj;unfold okAt;by_cases e:j<l.length
  ·rw[q8p e,ZD g l n j e]
   obtain⟨p,hp⟩:=a6 j e;rw[hp];rcases h with h | h
   ·omega
   ·simpa using h1.1 h j p e hp
  ·obtain rfl:j=l.length:=by omega
   rw[ZE g _ _ (by simp)];obtain⟨p,hp⟩:=Z n hn;simp only[qan (q3t _),Nat.sub_self,List.getElem?_cons_zero,q47,hp];simpa using hb p (q6F hp)
theorem onB_eq(ps:List Par)(lim:Int)(l:List Int)(n:Nat)(p:Par)(hok:YOk ps lim)(hp:PIn ps l)(hn:ps[n]?=some p) :
  onB ps lim l n=(decide ((n:Int)∉l) && (decide (qL ps l+p.tall<=lim) && decide (l.length=0\/(¬ (qI ps (pre Par.mn ps ps.length) l l.length<0\/l.length=0)/\p.mx<=max (-1) (qI ps (pre Par.mx ps ps.length) l l.length))))):=by
 have hlt:=(q7a.1 hn).1;have he:=hok.each p (q6F hn);have hx:pre Par.mx ps ps.length n=p.mx:=by unfold pre;rw[if_pos hlt,hn]
 have hm:qI ps (pre Par.mx ps ps.length) l l.length<=qI ps (pre Par.mn ps ps.length) l l.length:=Zy ps l (λi=>by
  unfold pre;split
  ·cases h:ps[i]? with
   | none=>exact Int.le_refl _
   | some q=>have:=hok.each q (q6F h);dsimp only;omega
  ·exact Int.le_refl _) _
 unfold onB;rw[vh,show jT ps n=p.tall by unfold jT;simp[hn],KU ps _ l n hp.ok (by omega) (λq hq=>(hok.each q hq).2.2.2.1) (by simp[hx];omega),Int.toNat_natCast,hx]
 congr 2
 rw[decide_eq_decide];omega
end Go.Proofs.YtidgnkmjgioapaaGreat
end
section
namespace Go.Proofs.YtidgnkmjgioapaaGreat
open Go Go.RowKit Go.Co Go.Sim Go.Conc Go.ConcN
theorem KY(ps:List Par)(l:List Int):∃sa sb se:Int,vu ps l=.tuple #[.agg #[.int .i64 sa,.int .i64 sb],.int .i64 se] /\
  ((se=0/\¬ (qI ps (pre Par.mn ps ps.length) l l.length<0\/l.length=0)/\sa=max (-1) (qI ps (pre Par.mx ps ps.length) l l.length))\/(se=11/\(qI ps (pre Par.mn ps ps.length) l l.length<0\/l.length=0))):=by
 unfold vu;by_cases h:qI ps (pre Par.mn ps ps.length) l l.length<0\/l.length=0
 ·exact⟨_,_,_,if_pos h,.inr ⟨rfl,h⟩⟩
 ·exact⟨_,_,_,if_neg h,.inl ⟨rfl,h,rfl⟩⟩
section
variable[J:JunkSet]{Post:q2v->q1A->Prop}{W:q1A}
theorem el18(D:Two Tryp.prog q6w)(hok:JunkSet.okf 137)(q7:∀i,¬ JunkSet.jk i)(hin:Tryp.prog.inits.idxOf? 18=none)(n4:Tryz.prog.inits.idxOf? 18=none){base:Option q9q}{len cap:Nat}
  {wq:q1A} (hl:(len:Int)<=9223372036854775807) (hr:0<len->∃lb lo,base=some ⟨lb,lo,none⟩/\∀i,i<len->∃x,wq.cell? ⟨lb,lo+i,none⟩=some (.int .i64 x)) (h0:qS wq 0)
  (e8:∀w,(∀j,j<W.heap.size->w.heap[j]?=W.heap[j]?)->w.os=W.os->w.output=W.output->W.heap.size<=w.heap.size->Post (.bool true) w) :
  EL Tryp.prog q6w 18 Post W (G (q8z Tryp.prog 18 #[.slice base len cap] .normal) [qj 18]) wq:=by
 have hs:Tryp.prog.funcs[(q7z 18).fn]?=Tryz.prog.funcs[(q7z 18).fn]?:=zd 18 (by decide);have hb:Bot 18 [qj 18]:=⟨[],rfl⟩
 rw[q5E (fn:=Tryz.f18) (c0:=Tryz.f18.body.getD .skip) Tryp.func18 (by kernel_rfl)];simp only[Tryz.f18,q47];walk_nrm;refine EL.seq D hb hs ?_;refine EL.piece D hb hs λT=>?_;go_wp2;refine EL.tape (wq:=wq) ?_ T;refine EL.seq D hb hs ?_;refine EL.piece D hb hs λT=>?_;have HR:=q0y hr;clear hr;go_wp2_with (first
  | (go_at_call 24;refine(q3o base len cap (wq.tp T) hl HR.out).mono ?_;rintro e w2 ⟨rfl,n9,m4⟩;have G2:=q0y n9;have T2:=q0y m4;clear n9 m4))
 obtain⟨b,h9⟩:∃b,b=(wq.tp T).heap.size:=⟨_,rfl⟩
 rw[<- h9] at T2 ⊢;have q2:=q0y (show b=wq.heap.size from h9);refine jg (λu=>(wq.tp u.tape).grownBy u none/\qT u b 0) ⟨tpg G2.out,T2.out⟩ λu1 hF=>?_;obtain⟨g1,t1⟩:=hF;clear G2 T2 h9 HR;refine EL.seq D hb hs ?_;refine EL.piece D hb hs λT=>?_;go_wp2_with (first
  | (go_at_call 33;refine(q2x b 0 5 (u1.tp T) t1 (by omega) (by omega)).mono ?_;rintro e w2 ⟨ps,lim,yv,m3,rfl,n2,e9⟩;have N2:=q0y n2;have P2:=q0y e9;have YD:=q0y m3;obtain⟨yb,yc,rfl,-,-⟩:=e9.cell;clear n2 e9 m3))
 obtain⟨X,hX⟩:∃X,X=w2.heap.size:=⟨_,rfl⟩
 rw[<- hX];have p7:b<u1.heap.size:=t1.lt;have a8:=q1u w2 (.cells #[.slice yb ps.length yc,.int .i64 lim] 24) none;refine jg (λq=>(wq.tp q.tape).grownBy q none/\qT q b 38/\q.heap[X]?=some (.cells #[.slice yb ps.length yc,.int .i64 lim] 24 (0,0))/\qq u1.heap.size q.heap.size q (.slice yb ps.length yc) ps) ⟨gb (gnew g1 (tpg N2.out.1) (Nat.le_of_eq q2.out.symm)) (tpg (T:=w2.tape) a8),N2.out.2.alloc _,by rw[hX];exact q46 _ _,(P2.out.alloc _).mono (q3t _) a8.size⟩ λu2 hF=>?_;obtain⟨g2,t2,x2,p2⟩:=hF;have e6:=YD.out.yok (q3t _);have a9:=q0y e6;clear a8 N2 P2 hX g1 t1 YD e6;refine EL.seq D hb hs ?_;refine EL.piece D hb hs λT=>?_;have c0:=q8 (w:=u2.tp T) x2 (o:=0) rfl;have c1:=q8 (w:=u2.tp T) x2 (o:=1) rfl;go_wp2_with (first
  | (go_at_call 34;refine(q3s b 38 u1.heap.size _ ps lim (u2.tp T) t2 (by omega) p2 p7 a9.out.len (by have:=a9.out.l1;omega) (by have:=a9.out.l2;omega) (λp hp=>by have:=a9.out.each p hp;omega)).mono ?_;rintro e w3 ⟨l,lv,m8,rfl,m9,h8,d5⟩;have N3:=q0y m9;have I3:=q0y h8;have PK:=q0y m8;obtain⟨lb,lc,rfl,-,-⟩:=h8.cell;have q1:=q0y (d5 _ _ _ rfl);clear m9 h8 m8 d5))
 have p8:b≠X:=λe=>by
  have h:=x2;obtain⟨_,_,_,_,_,_,r4,_⟩:=t2;rw[<- e,r4] at h;injection h with h;injection h with _ h _;exact absurd h (by decide)
 refine jg (λq=>(wq.tp q.tape).grownBy q none/\q.heap[X]?=some (.cells #[.slice yb ps.length yc,.int .i64 lim] 24 (0,0))/\qq 0 q.heap.size q (.slice yb ps.length yc) ps/\qe 0 q.heap.size q (.slice lb l.length lc) l) ⟨gnew g2 (tpg N3.out.1) (Nat.le_of_eq q2.out.symm),blk (w:=u2.tp T) N3.out.1 (by simpa using p8.symm) x2,(qq.kept (w:=u2.tp T) p2 N3.out.1 (λR e=>by cases e;exact .inl p7)).mono (q8m _) N3.out.1.size,I3.out.mono (q8m _) (q3t _)⟩ λu3 hF=>?_;obtain⟨g3,x3,p3,l3⟩:=hF;clear N3 I3 g2 t2 x2 p2 c0 c1 p8;obtain⟨sa,sb,se,m5,m7⟩:=KY ps l;have p9:=q0y m5;have q0:=q0y m7;clear m5 m7;refine EL.seq D hb hs ?_;refine EL.piece D hb hs λT=>?_;have c0:=q8 (w:=u3.tp T) x3 (o:=0) rfl;have c1:=q8 (w:=u3.tp T) x3 (o:=1) rfl;go_wp2_with (first
  | (go_at_call 36;refine(Ka 0 u3.heap.size _ _ ps lim l (u3.tp T) p3 l3 (q3t _) a9.out PK.out).mono ?_;rintro e w4 ⟨rfl,n8⟩;rw[p9.out];have G4:=q0y n8;clear n8))
 obtain⟨S,hS⟩:∃S,S=w4.heap.size:=⟨_,rfl⟩
 rw[<- hS];have a8:=G4.out.trans (q1u w4 (.cells #[.int .i64 sa,.int .i64 sb] 26) none);refine jg (λq=>(wq.tp q.tape).grownBy q none/\q.heap[X]?=some (.cells #[.slice yb ps.length yc,.int .i64 lim] 24 (0,0))/\q.heap[S]?=some (.cells #[.int .i64 sa,.int .i64 sb] 26 (0,0))/\qq 0 q.heap.size q (.slice yb ps.length yc) ps/\qe 0 q.heap.size q (.slice lb l.length lc) l) ⟨gb g3 (tpg a8),blk (w:=u3.tp T) a8 (by simp) x3,by rw[hS];exact q46 _ _,(qq.kept (w:=u3.tp T) p3 a8 (by simp)).mono (q3t _) a8.size,l3.kn a8⟩ λu4 hF=>?_;obtain⟨g4,x4,s4,p4,l4⟩:=hF;clear G4 g3 x3 p3 l3 c0 c1 a8 hS;refine EL.seq D hb hs ?_;refine EL.piece D hb hs λT=>?_;have c0:=q8 (w:=u4.tp T) x4 (o:=0) rfl;have c1:=q8 (w:=u4.tp T) x4 (o:=1) rfl;go_wp2_with (first
  | (go_at_call 75;refine(on_ok 0 u4.heap.size _ lb lc ps lim l (u4.tp T) p4 l4 q1.out (q3t _) a9.out PK.out).mono ?_;rintro e w5 ⟨ov,rfl,n7,g9⟩;have G5:=q0y n7;have I5:=q0y g9;obtain⟨ob,oc,rfl,-,-⟩:=g9.cell;clear n7 g9))
 refine jg (λq=>(wq.tp q.tape).grownBy q none/\q.heap[X]?=some (.cells #[.slice yb ps.length yc,.int .i64 lim] 24 (0,0))/\q.heap[S]?=some (.cells #[.int .i64 sa,.int .i64 sb] 26 (0,0))/\qq 0 q.heap.size q (.slice yb ps.length yc) ps/\qe 0 q.heap.size q (.slice lb l.length lc) l/\qe 0 q.heap.size q (.slice ob ((ze ps.length).filter (onB ps lim l)).length oc) ((ze ps.length).filter (onB ps lim l))) ⟨gb g4 (tpg G5.out),blk (w:=u4.tp T) G5.out (by simp) x4,blk (w:=u4.tp T) G5.out (by simp) s4,(qq.kept (w:=u4.tp T) p4 G5.out (by simp)).mono (q3t _) G5.out.size,l4.kn G5.out,I5.out.mono (q8m _) (q3t _)⟩ λu5 hF=>?_;obtain⟨g5,x5,s5,p5,l5,o5⟩:=hF;clear G5 I5 g4 x4 s4 p4 l4 c0 c1 p9;have m6:(se=0/\(¬ (qI ps (pre Par.mn ps ps.length) l l.length<0\/l.length=0)/\sa=max (-1) (qI ps (pre Par.mx ps ps.length) l l.length)))\/se=11/\(qI ps (pre Par.mn ps ps.length) l l.length<0\/l.length=0):=q0.out;clear q0;rcases m6 with⟨rfl,hsp⟩ | ⟨rfl,hsp⟩
 all_goals
  have k7:=q0y hsp;clear hsp;refine EL.seq D hb hs ?_;refine EL.piece D hb hs λT=>?_;go_wp2;refine EL.tape (wq:=u5) ?_ T;refine EL.seq D hb hs ?_;refine EL.piece D hb hs λT=>?_;go_wp2;refine EL.tape (wq:=u5) ?_ T;refine EL.seq D hb hs ?_;refine EL.piece D hb hs λT=>?_;have s3:l.length<=100:=PK.out.len;have r6:=a9.out.len;have P5:=q0y (show qq 0 u5.heap.size (u5.tp T) (.slice yb ps.length yc) ps from p5);have L5:=q0y (show qe 0 u5.heap.size (u5.tp T) (.slice lb l.length lc) l from l5);have O5:=q0y (show qe 0 u5.heap.size (u5.tp T) (.slice ob ((ze ps.length).filter (onB ps lim l)).length oc) ((ze ps.length).filter (onB ps lim l)) from o5);have X5:=q0y (show(u5.tp T).heap[X]?=_ from x5);have S5:=q0y (show(u5.tp T).heap[S]?=_ from s5);have G5:=q0y g5;clear p5 l5 o5 x5 s5 g5;go_wp2;go_loopw [10,11] (λtv iv wr=>∃j:Nat,iv=.int .i64 j/\j<=l.length/\tv=.int .i64 (qL ps (l.take j))/\0<=qL ps (l.take j)/\qL ps (l.take j)<=1000*j/\(u5.tp T).grownBy wr none) (λ_ iv _=>(l.length - q9G iv).toNat)
  case atStart=>exact⟨0,rfl,by omega,by simp[qL],by simp[qL],by simp[qL],q6D _ _⟩
  case round =>
   obtain⟨j,rfl,hj,rfl,ht0,ht1,hG⟩:=hrel;have HG:=q0y hG;by_cases hlt:j<l.length
   ·obtain⟨r9,r8,el,-,n3⟩:=(L5.out.kept hG (by simp)).cell
    injection el with el1 _ el3;subst el1 el3;obtain⟨LB,r7,rfl,-,-,-,b8⟩:=n3 (by intro e;rw[e] at hlt;simp at hlt);obtain⟨x,hx⟩:∃x,l[j]?=some x:=⟨_,q48 hlt⟩
    have q5:=PK.out.ok x (q6F hx);obtain⟨m,rfl⟩:=Int.eq_ofNat_of_zero_le q5.1;have hm:m<ps.length:=by omega
    have s2:(m:Int)<(ps.length:Int):=by omega
    have lx:=b8 j hlt;rw[hx] at lx;simp only[q47] at lx;obtain⟨q4,q3,ey,-,c9⟩:=(P5.out.kept hG (by simp)).cell;injection ey with ey1 _ ey3;subst ey1 ey3;obtain⟨YB,yo,rfl,-,-,-,a6⟩:=c9 (by intro e;rw[e] at hm;simp at hm);obtain⟨p,hp,p0,p1,p2,p3⟩:=a6 m hm;have q6:=a9.out.each p (q6F hp);have d9:=Jj ps l j m hx;rw[show jT ps m=p.tall by unfold jT;simp[hp]] at d9;have x0:=q8 (blk hG (by simp) X5.out) (o:=0) rfl;have s9:(j:Int)<(l.length:Int):=by omega
    generalize qL ps (l.take j)=T0 at ht0 ht1 d9;have k6:=q0y d9;clear hG n3 b8 c9 a6 hx hp d9;go_wp2_with (fail);go_quiet (fail);go_wp2_with (fail);go_roundw
    case rel=>exact⟨j+1,by simp,by omega,by rw[k6.out],by rw[k6.out];omega,by rw[k6.out];omega,HG.out.trans (qi _ _ _)⟩
    case measure=>simp[q9G];omega
   ·obtain rfl:j=l.length:=by omega
    rw[qar] at ht0 ht1;rw[qar];obtain⟨t0,ht⟩:∃t0,t0=qL ps l:=⟨_,rfl⟩
    rw[<- ht] at ht0 ht1 ⊢;have b9:=q0y ht;have r5:=q0y (show u5.heap.size<=wr.heap.size from hG.size);clear ht;refine Qw (λq=>(u5.tp T).grownBy q none) hG λw6 hF=>?_;have b0:=q0y hF;clear hG HG hF;go_wp2;refine jg (λq=>(wq.tp q.tape).grownBy q none/\q.heap[X]?=some (.cells #[.slice yb ps.length yc,.int .i64 lim] 24 (0,0))/\q.heap[S]?=some (.cells #[.int .i64 sa,.int .i64 sb] 26 (0,0))/\qq 0 q.heap.size q (.slice yb ps.length yc) ps/\qe 0 q.heap.size q (.slice lb l.length lc) l/\qe 0 q.heap.size q (.slice ob ((ze ps.length).filter (onB ps lim l)).length oc) ((ze ps.length).filter (onB ps lim l))) ⟨gb G5.out (tpg b0.out),blk b0.out (by simp) X5.out,blk b0.out (by simp) S5.out,(P5.out.kept b0.out (by simp)).mono (q3t _) b0.out.size,(L5.out.kept b0.out (by simp)).mono (q3t _) b0.out.size,(O5.out.kept b0.out (by simp)).mono (q3t _) b0.out.size⟩ λu6 hF=>?_;obtain⟨g6,x6,s6,p6,l6,o6⟩:=hF;clear b0 P5 L5 O5 X5 S5 G5 r5;refine EL.seq D hb hs ?_;refine EL.piece D hb hs λT'=>?_;go_wp2;refine EL.tape (wq:=u6) ?_ T';refine EL.seq D hb hs ?_;refine EL.piece D hb hs λT2=>?_;have P6:=q0y (show qq 0 u6.heap.size (u6.tp T2) (.slice yb ps.length yc) ps from p6);have L6:=q0y (show qe 0 u6.heap.size (u6.tp T2) (.slice lb l.length lc) l from l6);have O6:=q0y (show qe 0 u6.heap.size (u6.tp T2) (.slice ob ((ze ps.length).filter (onB ps lim l)).length oc) ((ze ps.length).filter (onB ps lim l)) from o6);have X6:=q0y (show(u6.tp T2).heap[X]?=_ from x6);have S6:=q0y (show(u6.tp T2).heap[S]?=_ from s6);have G6:=q0y g6;clear p6 l6 o6 x6 s6 g6;obtain⟨i0,e5,l9,l8,l7⟩:=info_parts Tryp.info3p;go_wp2;go_loopw [12,13] (λdv iv wr=>∃k:Nat,iv=.int .i64 k/\k<=ps.length/\(u6.tp T2).grownBy wr none/\wr.ownsRow u6.heap.size 3 1 dv ((ze k).filter (onB ps lim l)).length (((ze k).filter (onB ps lim l)).map (q83 .i64))) (λ_ iv _=>(ps.length - q9G iv).toNat)
    case atStart=>exact⟨0,rfl,by omega,q6D _ _,qaB _ _ _ _⟩
    case round =>
     obtain⟨k,rfl,hk,hG,hO⟩:=hrel;obtain⟨oa,om,e7,rfl⟩:=zn hO;have HG:=q0y hG;have HO:=q0y hO;have x0:=q8 (blk hG (by simp) X6.out) (o:=0) rfl;clear hO;by_cases hlt:k<ps.length
     ·obtain⟨q4,q3,ey,-,c9⟩:=(P6.out.kept hG (by simp)).cell
      injection ey with ey1 _ ey3;subst ey1 ey3;obtain⟨YB,yo,rfl,-,-,-,a6⟩:=c9 (by intro e;rw[e] at hlt;simp at hlt);obtain⟨p,hp,p0,p1,p2,p3⟩:=a6 k hlt;have q6:=a9.out.each p (q6F hp);have c8:=q0y (onB_eq ps lim l k p a9.out PK.out.pin hp);have d6:=q0y (show(ze (k+1)).filter (onB ps lim l)=(ze k).filter (onB ps lim l)++(if onB ps lim l k then[(k:Int)] else[]) by rw[Kf,List.filter_append,List.filter_cons,List.filter_nil]);have s8:(k:Int)<(ps.length:Int):=by omega
      have t4:((ze k).filter (onB ps lim l)).length<=k:=by have:=qah (onB ps lim l) (ze k);rwa [zo] at this
      clear hG c9 a6 hp;go_upto_region 18 with(fail)
      obtain⟨V,hV⟩:∃V,V=wr.heap.size:=⟨_,rfl⟩
      rw[<- hV];obtain⟨w7,d8⟩:∃w7,w7=wr.alloc (.cells #[.int .i64 p.mn,.int .i64 p.mx,.int .i64 p.bears,.int .i64 p.tall] 28):=⟨_,rfl⟩
      rw[<- d8];have k5:wr.grownBy w7 none:=by rw[d8];exact q1u _ _ none
      have k0:w7.heap[V]?=some (.cells #[.int .i64 p.mn,.int .i64 p.mx,.int .i64 p.bears,.int .i64 p.tall] 28 (0,0)):=by rw[d8,hV];exact q46 _ _
      have b6:=q0y (HG.out.trans k5);have b7:=q0y (HO.out.kept k5 (Classical.em _));have v1:=q8 k0 (o:=1) rfl;have v3:=q8 k0 (o:=3) rfl;have x7:=q8 (blk b6.out (by simp) X6.out) (o:=1) rfl;have s7:=q8 (blk b6.out (by simp) S6.out) (o:=0) rfl;have L7:=q0y (L6.out.kept b6.out (by simp));have hsz:u6.heap.size<=w7.heap.size:=b6.out.size;have s1:IntKind.i64.wrap (t0+p.tall)=t0+p.tall:=q8f _ (by omega);clear k5 k0 d8 hV x0 p0 p1 p2 p3;by_cases c1:(k:Int)∈l
      ·have C1:=q0y c1
       have HB:=q0y (show onB ps lim l k=false by rw[c8.out,<- b9.out];simp[c1]);clear c1;go_wp2_with (first
        | (go_at_call 40;refine(Yk _ _ _ l k w7 L7.out).mono ?_;rintro e w8 ⟨r,rfl,hr,rfl⟩;have e4:¬ r<0:=λh=>hr.1 h C1.out;clear hr))
       go_roundw
       case rel =>
        refine⟨k+1,by simp,by omega,b6.out,?_⟩;rw[d6.out,HB.out];simpa using b7.out
       case measure=>simp[q9G];omega
      ·have C1:=q0y c1
       by_cases c2:t0+p.tall<=lim
       ·by_cases c3:l.length=0
        ·have HB:=q0y (show onB ps lim l k=true by rw[c8.out,<- b9.out];simp[c1,c2,c3])
         have r3:((l.length:Int) == 0)=true:=by simp[c3]
         clear c1 c3;go_wp2_with (first
          | (go_at_call 40;refine(Yk _ _ _ l k w7 L7.out).mono ?_;rintro e w8 ⟨r,rfl,hr,rfl⟩;have e4:r<0:=hr.2 C1.out;clear hr)
          | (at_builtin;go_must (refine wpList_append_own _ rfl _ _ 29 rfl u6.heap.size 3 i0 _ 1 8 Tryp.und29' e5 l9 l8 l7 rfl (by decide) (.slice oa om e7) ((ze k).filter (onB ps lim l)).length _ rfl (b7.out.alloc _) ⟨w7.heap.size,0,none⟩ 1 1 [.int .i64 k] rfl rfl (qac (cs:=#[.int .i64 k]) (t:=3) (fr:=(0,0)) (q46 w7 _)) (by simp[qb3]) (by unfold maxLen;omega) (by omega) (by simp;omega) ?_);intro v' w9 Z a7 _;obtain⟨g',cap',rfl⟩:=ownsRow_succ Z;have k8:=q0y Z;have k9:=q0y a7;clear Z a7))
         go_roundw
         case rel =>
          refine⟨k+1,by simp,by omega,(b6.out.trans (q1u _ _ none)).andThen k9.out (λj e=>.inl (b7.out.lt j e).1),?_⟩;rw[d6.out,HB.out,if_pos rfl,qa7,q9y];exact k8.out
         case measure=>simp[q9G];omega
        ·have r3:((l.length:Int) == 0)=false:=by rw[beq_eq_false_iff_ne];omega
         obtain⟨d,hd⟩:∃d,d=onB ps lim l k:=⟨_,rfl⟩
         cases d with
         | true =>
          try exact absurd (hd.trans (show _=false by have h1:=k7.out.resolve_right c3;rw[c8.out,<- b9.out];simp[c3,h1])) (by decide)
          all_goals
           have c5:p.mx<=sa:=by
            have h:=hd.symm;rw[c8.out,<- b9.out,q78,q78,decide_eq_true_eq,decide_eq_true_eq,decide_eq_true_eq] at h;rw[k7.out.2];exact(h.2.2.resolve_left c3).2
           have HB:=q0y hd.symm;clear c1 c3 hd;go_wp2_with (first
            | (go_at_call 40;refine(Yk _ _ _ l k w7 L7.out).mono ?_;rintro e w8 ⟨r,rfl,hr,rfl⟩;have e4:r<0:=hr.2 C1.out;clear hr)
            | (at_builtin;go_must (refine wpList_append_own _ rfl _ _ 29 rfl u6.heap.size 3 i0 _ 1 8 Tryp.und29' e5 l9 l8 l7 rfl (by decide) (.slice oa om e7) ((ze k).filter (onB ps lim l)).length _ rfl (b7.out.alloc _) ⟨w7.heap.size,0,none⟩ 1 1 [.int .i64 k] rfl rfl (qac (cs:=#[.int .i64 k]) (t:=3) (fr:=(0,0)) (q46 w7 _)) (by simp[qb3]) (by unfold maxLen;omega) (by omega) (by simp;omega) ?_);intro v' w9 Z a7 _;obtain⟨g',cap',rfl⟩:=ownsRow_succ Z;have k8:=q0y Z;have k9:=q0y a7;clear Z a7))
           go_roundw
           case rel =>
            refine⟨k+1,by simp,by omega,(b6.out.trans (q1u _ _ none)).andThen k9.out (λj e=>.inl (b7.out.lt j e).1),?_⟩;rw[d6.out,HB.out,if_pos rfl,qa7,q9y];exact k8.out
           case measure=>simp[q9G];omega
         | false =>
          have h5:p.mx<=sa->¬ (¬ (qI ps (pre Par.mn ps ps.length) l l.length<0\/l.length=0)/\sa=max (-1) (qI ps (pre Par.mx ps ps.length) l l.length)):=λh h'=>by
           have h2:onB ps lim l k=true:=by rw[c8.out,<- b9.out,decide_eq_true C1.out,decide_eq_true c2,decide_eq_true (show l.length=0\/_ from .inr ⟨h'.1,h'.2 ▸ h⟩)];rfl
           exact absurd (hd.trans h2) (by decide)
          try have c5:¬ p.mx<=sa:=λh=>h5 h k7.out
          clear h5;have HB:=q0y hd.symm;clear c1 c3 hd;go_wp2_with (first
           | (go_at_call 40;refine(Yk _ _ _ l k w7 L7.out).mono ?_;rintro e w8 ⟨r,rfl,hr,rfl⟩;have e4:r<0:=hr.2 C1.out;clear hr))
          go_roundw
          case rel =>
           refine⟨k+1,by simp,by omega,b6.out,?_⟩;rw[d6.out,HB.out];simpa using b7.out
          case measure=>simp[q9G];omega
       ·have HB:=q0y (show onB ps lim l k=false by rw[c8.out,<- b9.out];simp[c2])
        clear c1;go_wp2_with (first
         | (go_at_call 40;refine(Yk _ _ _ l k w7 L7.out).mono ?_;rintro e w8 ⟨r,rfl,hr,rfl⟩;have e4:r<0:=hr.2 C1.out;clear hr))
        go_roundw
        case rel =>
         refine⟨k+1,by simp,by omega,b6.out,?_⟩;rw[d6.out,HB.out];simpa using b7.out
        case measure=>simp[q9G];omega
     ·obtain rfl:k=ps.length:=by omega
      clear hG;go_wp2;refine jg (λq=>(wq.tp q.tape).grownBy q none/\qe 0 q.heap.size q (.slice ob ((ze ps.length).filter (onB ps lim l)).length oc) ((ze ps.length).filter (onB ps lim l))/\qe 0 q.heap.size q (.slice oa om e7) ((ze ps.length).filter (onB ps lim l))) ⟨gb G6.out (tpg HG.out),(O6.out.kept HG.out (by simp)).mono (q3t _) HG.out.size,(qe.own HO.out (by have:=qah (onB ps lim l) (ze ps.length);rw[zo] at this;omega)).mono (q8m _) (q3t _)⟩ λu7 hF=>?_;obtain⟨g7,o7,d7⟩:=hF;clear HG HO P6 L6 O6 X6 S6 G6;refine EL.seq D hb hs ?_;refine EL.region D hb hs ?_;simp only[q8b,q6t,q7f,q86,q7o,q8u,q9i];refine EL.list D hb hs [0,1,2,3] [_,_,_,_] (rest:=[4,5,6]) rfl λT3=>?_;go_wp2_with (first
       | (go_at_call 31;refine(jI 0 u7.heap.size 0 u7.heap.size _ _ _ _ (u7.tp T3) o7 d7).mono ?_;rintro e w8 ⟨rfl,n6⟩;rw[decide_eq_true rfl];have G8:=q0y n6;clear n6))
      refine jg (λq=>(wq.tp q.tape).grownBy q none) (gb g7 (tpg G8.out)) λu8 g8=>?_;clear G8 g7 o7 d7;refine EL.enter D hb hs (fk:=23) (args:=#[]) rfl rfl (λT=>by rw[run_call_body (f:=23) rfl Tryp.func23 (by kernel_rfl) rfl];walk_nrm) (zd 23 (by decide)) ?_;refine el23 D hok q7 hin ⟨_,Tryp.func18,Tryz.func18⟩ ?_ _ [qj 18] hb hs λv u hR=>?_
      ·obtain⟨cs,e,g,h0,e5⟩:=h0
       exact⟨cs,e,g,blk (w:=wq.tp u8.tape) g8 (by simp) h0,e5⟩
      obtain⟨rfl,t3⟩:=hR;rw[qaF];walk_nrm;refine EL.list D hb hs [5,6] [_,_] (rest:=[]) rfl λT4=>?_;go_wp2;refine EL.tape (wq:=u) ?_ T4;refine EL.region_end D hb hs ?_;refine EL.retS D hb hs ?_;exact EL.last n4 rfl rfl Tryz.func18 rfl rfl e8
end
end Go.Proofs.YtidgnkmjgioapaaGreat
end
section
namespace Go.Proofs.YtidgnkmjgioapaaGreat
open Go Go.RowKit Go.Co Go.Sim Go.Conc Go.ConcN Go.ChangeShapes Go.WideShapes
theorem Tryz.own:ownKnob Tryz.prog.godebug=none:=by kernel_rfl
theorem Tryz.laidOut:laidOutB q6w=true:=by kernel_rfl
theorem q4A:Tryz.prog.globals.size=0:=by kernel_rfl
theorem start0:(begin q6w (λ_ _=>0) default).world.heap[0]?=some (.cells ((Array.range Tryz.prog.types.size).map λt=>.int .u64 (Int.ofNat t)) 0 (0,0)):=by kernel_rfl
def OpenAt0(w:q1A):Prop:=∃cs e f,w.heap[0]?=some (.cells cs e f)/\∀(i:Nat) v,cs[i]?=some v->∃k m,v=.int k m
theorem open0{w:q1A}(h:w.ShapedOpen q6w):OpenAt0 w:=by
 obtain⟨o,o0,h1,h2,h3⟩:=h.2 0 (by rw[q4A];exact q3t _) (q21.1 start0).1;rw[start0] at h2;cases h2;rw[q4A,if_neg (by decide)] at h3;subst h3;refine⟨_,_,_,h1,λi v hv=>?_⟩;rw[Array.getElem?_map] at hv;cases hi:(Array.range Tryz.prog.types.size)[i]? with
 | none=>rw[hi] at hv;cases hv
 | some x=>rw[hi] at hv;cases hv;exact⟨_,_,rfl⟩
theorem two0:@Two (JS Tryp.prog q6w ls λ_=>False) Tryp.prog q6w :=
 @Two.mk (JS Tryp.prog q6w ls λ_=>False) _ _ (duoQP _) ⟨⟨JS Tryp.prog Tryp.prog ls λ_=>False⟩,up _,duoQQ _⟩ hrf stub85
def NumLaw(f:q9t):Prop :=
 ∀ [J:JunkSet] {Post:q2v->q1A->Prop} {W:q1A},Two Tryp.prog q6w->JunkSet.okf 137->(∀i,¬ JunkSet.jk i)->∀{base:Option q9q} {len cap:Nat} {wq:q1A},(len:Int)<=9223372036854775807 ->
  (0<len->∃lb lo,base=some ⟨lb,lo,none⟩/\∀i,i<len->∃x,wq.cell? ⟨lb,lo+i,none⟩=some (.int .i64 x))->qS wq 0 ->
  (∀w,(∀j,j<W.heap.size->w.heap[j]?=W.heap[j]?)->w.os=W.os->w.output=W.output->W.heap.size<=w.heap.size->Post (.bool true) w) ->
  EL Tryp.prog q6w f Post W (G (q8z Tryp.prog f #[.slice base len cap] .normal) [qj f]) wq
theorem q8n{f:q9t}(hf:f≠85)(b6:lst.contains f=true)(b0:NumLaw f){Post:q2v->q1A->Prop}{W:q1A}{a0:Option q9q}{len cap:Nat}(hsp:∀a,a0=some a->a.spot=none/\∃cs e g,W.heap[a.block]?=some (.cells cs e g))
  (hl:(len:Int)<=9223372036854775807) (hr:0<len->∃lb lo,a0=some ⟨lb,lo,none⟩/\∀i,i<len->∃x,W.cell? ⟨lb,lo+i,none⟩=some (.int .i64 x)) (h0:qS W 0)
  (a6:∀w,(∀j,j<W.heap.size->w.heap[j]?=W.heap[j]?)->w.os=W.os->w.output=W.output->W.heap.size<=w.heap.size->Post (.bool true) w) :
  Go.Co.Ends q6w Post (solo (G (q8z q6w f #[.slice a0 len cap] .normal) []) W) #[]:=by
 letI:JunkSet:=JS Tryp.prog q6w ls λ_=>False
 obtain⟨a9,e0,g0,a7,b8⟩:=h0;have b9:0<W.heap.size:=(q21.1 a7).1
 let kn:Nat->Bool:=λi=>i == 0 || (match a0 with | some a=>i == a.block | none=>false)
 have b7:∀i,kn i=true->i<W.heap.size->∃cs e g,W.heap[i]?=some (.cells cs e g):=by
  intro i hi _;simp only[kn,qb6,beq_iff_eq] at hi;rcases hi with rfl | hi
  ·exact⟨_,_,_,a7⟩
  ·cases a0 with
   | none=>cases hi
   | some a =>
    have:i=a.block:=by simpa using hi
    rw[this];exact(hsp a rfl).2
 refine EL.begin (kn:=kn) (aq:=#[.slice a0 len cap]) two0 b6 (zd f hf) (λi h=>h) (by rw[q4A];exact b9) (λi hi=>?_) b7 ⟨rfl,λi x y hx hy=>?_⟩ ?_
 ·rw[q4A] at hi
  obtain rfl:i=0:=by omega
  rfl
 ·rw[hx] at hy
  cases hy;obtain rfl:x=.slice a0 len cap:=by
   rcases i with _ | i
   ·simpa using hx.symm
   ·simp at hx
  cases a0 with
  | none=>exact .sliceNil _ _
  | some a =>
   obtain⟨a8,cs,e,g,Z⟩:=hsp a rfl;obtain⟨b,o,sp⟩:=a;dsimp only at a8 Z;subst a8;exact .slice _ _ _ _ (vL.2 ⟨(q21.1 Z).1,by simp[kn],rfl⟩)
 ·refine b0 two0 (by show lst.contains 137=true;rfl) (λi h=>h) hl (λhp=>?_) ⟨_,_,_,kS (by rfl) a7,λi v hv=>?_⟩ a6
  rotate_left
  ·have hsz:i<a9.size:=by have:=(q21.1 hv).1;simpa[vR] using this
   obtain⟨k,m,e⟩:=b8 i _ (q81 hsz);rw[Kq _ _ (show a9[i]?=some (.int k m) by rw[<- e];exact q81 hsz)] at hv;cases hv;exact⟨k,m,rfl⟩
  obtain⟨lb,lo,rfl,h⟩:=hr hp;refine⟨lb,lo,rfl,λi hi=>?_⟩;obtain⟨x,hx⟩:=h i hi;obtain⟨-,cs,e,g,Z⟩:=hsp _ rfl;refine⟨x,?_⟩;have hc:cs[lo+i]?=some (.int .i64 x):=by simpa[q8y,Z] using hx
  have:=kS (kn:=kn) (by simp[kn]) Z;simp only[q8y,this];exact Kq _ _ hc
end Go.Proofs.YtidgnkmjgioapaaGreat
end
