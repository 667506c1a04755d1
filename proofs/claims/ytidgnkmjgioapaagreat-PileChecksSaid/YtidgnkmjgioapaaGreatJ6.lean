/-
  gladstonelaw04.PileChecks answers true for every yard, parcel, pile, number and list of numbers, and leaves its arguments as they were. No conditions.
-/
import Derived.Test.YtidgnkmjgioapaaGreatJ5
set_option maxRecDepth 100000
set_option maxHeartbeats 8000000
set_option linter.all false
open Go renaming MemPlace->qnl,TypeId->qh8,Value->qgB
open Go.Proofs.Tryz renaming checked->qqr,f8->qo8,func8->qoj,prog->qh5,underlying29->qlq
open List renaming append_nil->qmD,mem_append->qjv
open Option.some renaming inj->qjF
namespace Go.Proofs.YtidgnkmjgioapaaGreat
section
open Go Go.RowKit Go.Co Go.Sim Go.Conc Go.ConcN Go.ChangeShapes Go.WideShapes
theorem YO:qgl 8:=λD hok a7 _ _ _ _ _ _ _ _ _ _ _ _ _ hl hr h0 hY hL a6=>el8 D hok a7 (by kernel_rfl) (by kernel_rfl) hl hr h0 (λh=>hY (by omega)) (λh=>hL (by omega)) a6
theorem ZI(os:Os)(a7:os.Started)(H:Type)(enc:qh8 × qgB->H) :ReturnsInLeavingWide {} qqr os 8 .any (Rows.pileChecksSpec.pre6 enc qh5 qo8 [] false) (Rows.pileChecksSpec.post enc qh5 qo8 false true false false):=by
 refine returnsInLeavingWide_of_good (C:=qqr) Tryz.own a7 (ChangeSpec.witness6 (enc:=enc) (C:=qqr) (f:=8) (s:=Rows.pileChecksSpec) (fn:=qo8) false ⟨#[],#[.agg #[.slice none 0 0,.int .i64 0],.agg #[.int .i64 0,.int .i64 0,.int .i64 0,.int .i64 0],.slice none 0 0,.int .i64 0,.slice none 0 0],[]⟩ 8 (by kernel_rfl) (by kernel_rfl) (by kernel_rfl) (by kernel_rfl)) ?_;intro w tape i _ c8 _ hok b7 _;obtain⟨_,_,_,d9,b8,_,_,_,hsz,a6⟩:=hok;have e:d9=qo8:=qjF (b8.symm.trans qoj);subst e;obtain⟨⟨ds,gs,c3,hw,hc⟩,hz⟩:=b7;have hW:=DataW.Whole.of_heap (w':=w.forCall tape i) (by rfl) hw;have a8:=qfD c8;generalize g5:w.forCall tape i=W at hW a6 a8 ⊢;have a6:∀(j:Nat) t v,Tryz.f8.params[j]?=some t->i.args[j]?=some v->Value.okWide qh5 W .any w.heap.size t v:=a6;have a9:=hW;obtain⟨p,q,b9,d8,rfl,hfz,e9⟩:=hW;have hA:DataW.TrodAll enc qh5 W 0 (λ_=>true) true Tryz.f8.params.toList i.args.toList ds p:=b9;rw[Tryz.params8] at hA a6;have d6:i.args=i.args:=rfl;generalize i.args=args at hA a6 b9 a9 ⊢;obtain⟨v0,e8,d0,h8,p0,q0,d7,rfl,rfl,h0,hA⟩:=trodAll_cons hA;obtain⟨v1,e7,d1,g9,p1,q1,rfl,rfl,rfl,h1,hA⟩:=trodAll_cons hA;obtain⟨v2,e6,d2,g8,p2,q2,rfl,rfl,rfl,h2,hA⟩:=trodAll_cons hA;obtain⟨v3,e5,d3,g7,p3,q3,rfl,rfl,rfl,h3,hA⟩:=trodAll_cons hA;obtain⟨v4,e4,d4,g6,p4,q4,rfl,rfl,rfl,h4,hA⟩:=trodAll_cons hA;obtain⟨rfl,rfl,rfl⟩:=trodAll_nil hA;obtain⟨rfl,rfl⟩:=trodVars_none d8;obtain rfl:args=#[v0,v1,v2,v3,v4]:=KD d7;obtain⟨yb,ny,yc,x1,rfl,b0,-⟩:=qci (a6 0 24 v0 rfl rfl);obtain⟨lb,nl,lc,rfl,b6,d5⟩:=Jt qlq (a6 2 29 v2 rfl rfl);obtain⟨a0,len,cap,rfl,hsp,-⟩:=Jt qlq (a6 4 29 v4 rfl rfl);obtain⟨n,rfl⟩:=okWide_int Tryz.underlying3 (a6 3 3 v3 rfl rfl);obtain⟨pc,rfl,-⟩:=okWide_struct Tryz.underlying28 (a6 1 28 v1 rfl rfl);obtain⟨f0,g0⟩:=h0;obtain⟨f1,g1⟩:=h1;obtain⟨f2,g2⟩:=h2;obtain⟨f4,g4⟩:=h4;obtain⟨⟨lim,rfl⟩,ky⟩:=q9i b0 g0;obtain⟨pp,c9⟩:=JC g1;obtain rfl:pc=#[.int .i64 pp.mn,.int .i64 pp.mx,.int .i64 pp.bears,.int .i64 pp.tall]:=KD c9;have kl:=(q4b b6 g2).2;have key:=q4b hsp g4;simp only[qmD] at a9;have hlt:∀x,x∈p0\/x∈p1\/x∈p2\/x∈p3\/x∈p4->x.block<W.heap.size:=λx hx=>by
  have:=a9.lt x (by simp only[qjv];rcases hx with h | h | h | h | h<;>simp[h]);simpa using this
 obtain⟨N,last,o,w',t',k1,k2,k3,k4⟩:=q8s (f:=8) (by decide) (by rfl) YO (W:=W) (p:=pp) (n:=n) (lim:=lim) (yc:=yc) (lc:=lc) (cap:=cap) (Post:=λv W'=>Rows.pileChecksSpec.post enc qh5 qo8 false true false false W #[.agg #[.slice yb ny yc,.int .i64 lim],.agg #[.int .i64 pp.mn,.int .i64 pp.mx,.int .i64 pp.bears,.int .i64 pp.tall],.slice lb nl lc,.int .i64 n,.slice a0 len cap] v W') b0 b6 hsp key.1 key.2 a8 ky kl d5 (λW' k1 k2 k3 k4=>by
  have hb:Below W.heap.size W { W' with tape:=W.tape }:=⟨k2,rfl,k3,k4,k1⟩;have t0:DataW.Trod enc qh5 W' 0 (λb=>decide (b<W.heap.size)) true 24 _ d0 p0:=(Below.trod Tryz.laidOut (by kernel_rfl) (of_decide_eq_true (by kernel_rfl)) ⟨f0,g0⟩ hb (λx hx=>hlt x (.inl hx))).of_heap (by rfl);have t1:DataW.Trod enc qh5 W' 0 (λb=>decide (b<W.heap.size)) true 28 _ d1 p1:=(Below.trod Tryz.laidOut (by kernel_rfl) (of_decide_eq_true (by kernel_rfl)) ⟨f1,g1⟩ hb (λx hx=>hlt x (.inr (.inl hx)))).of_heap (by rfl);have t2:DataW.Trod enc qh5 W' 0 (λb=>decide (b<W.heap.size)) true 29 _ d2 p2:=(Below.trod Tryz.laidOut (by kernel_rfl) (of_decide_eq_true (by kernel_rfl)) ⟨f2,g2⟩ hb (λx hx=>hlt x (.inr (.inr (.inl hx))))).of_heap (by rfl);have t3:DataW.Trod enc qh5 W' 0 (λb=>decide (b<W.heap.size)) true 3 _ d3 p3:=(Below.trod Tryz.laidOut (by kernel_rfl) (of_decide_eq_true (by kernel_rfl)) h3 hb (λx hx=>hlt x (.inr (.inr (.inr (.inl hx)))))).of_heap (by rfl);have t4:DataW.Trod enc qh5 W' 0 (λb=>decide (b<W.heap.size)) true 29 _ d4 p4:=(Below.trod Tryz.laidOut (by kernel_rfl) (of_decide_eq_true (by kernel_rfl)) ⟨f4,g4⟩ hb (λx hx=>hlt x (.inr (.inr (.inr (.inr hx)))))).of_heap (by rfl);have hk:W.keptBut W' (λx=>x∈p0++(p1++(p2++(p3++p4)))/\(x∈([]:List qnl)\/x∈p0++(p1++(p2++(p3++p4)))\/x∈([]:List qnl))):=(hb.frame (λx=>x∈p0++(p1++(p2++(p3++p4)))/\(x∈([]:List qnl)\/x∈p0++(p1++(p2++(p3++p4)))\/x∈([]:List qnl))) :);exact⟨_,_,_,[],p0++(p1++(p2++(p3++p4))),[],a9,trodAll_mk1 (shut_bool Tryz.underlying4 true),⟨p0,p1++(p2++(p3++p4)),t0,trodAll_mk4 t1 t2 t3 t4,rfl⟩,rfl,hk,λh=>by cases h⟩)
 exact⟨N,last,o,w',t',k1,k2,k3,k4.mono λv hp=>ChangeSpec.post_blind hp⟩
theorem KZ:(Rows.pileChecksRow.inPlace == Tryz.prog.inPlace 8)=true:=by kernel_rfl
theorem KY:(Rows.pileChecksRow.unfollowed == Tryz.prog.unfollowed 8)=true:=by kernel_rfl
theorem KW:(Rows.pileChecksRow.recurses == Tryz.prog.recurses 8)=true:=by kernel_rfl
theorem KU:(Rows.pileChecksRow.named == Tryz.prog.varsNamed 8)=true:=by kernel_rfl
theorem KT:Rows.pileChecksRow.wf (OpenSpec.ofChange Rows.pileChecksSpec)=true:=by kernel_rfl
theorem Je:joinedFacts qh5 8 qo8 Rows.pileChecksSpec Rows.pileChecksRow=true:=by
 unfold joinedFacts;rw[KZ,KY,KW,KU,KT,Tryz.laidOut,qf3,qdc,qde,show(Rows.pileChecksRow.plainKeys == Tryz.prog.plainKeys)=true from qf5,qdf,qg7,show(Rows.pileChecksRow.lifted == Tryz.prog.liftsFinal)=true from qdd,show(Tryz.prog.make == some Rows.pileChecksRow.make)=true from qf4];kernel_rfl
theorem pileChecks_holds:Rows.PileChecksSaid :=
 OpenClaim.holds_of_wide_leaving 8 qo8 rfl rfl rfl rfl rfl rfl rfl ⟨rfl,rfl,rfl,rfl,rfl⟩ rfl rfl rfl rfl rfl (by kernel_rfl) qoj Je
  (of_decide_eq_true (by kernel_rfl)) (by unfold Func.isWrapper;rw[if_neg (of_decide_eq_false (by kernel_rfl))];exact⟨rfl,rfl⟩)
  (λos a6 H enc _=>ZI os a6 H enc)
#print axioms pileChecks_holds
end
end Go.Proofs.YtidgnkmjgioapaaGreat
