/-
  gladstonelaw04.PileMends answers true for every yard, parcel, pile, number and list of numbers that the statement takes, and leaves its arguments as they were. No conditions.
-/
import Derived.Test.YtidgnkmjgioapaaGreatJ5
set_option maxRecDepth 100000
set_option maxHeartbeats 8000000
set_option linter.all false
open Bool renaming false->NC,true->NB
open Go renaming MemPlace->UV,TypeId->NZ,Value->Ny
open Go.Proofs.Tryz renaming checked->Ys,f9->VF,func9->VP,prog->NV,underlying29->Ta,underlying3->SI
open List renaming append_nil->SV,mem_append->Qb
open Option renaming none->Ns,some->Nq
open Option.some renaming inj->QQ
open _root_ renaming List->Nu,Nat->NA
namespace Go.Proofs.YtidgnkmjgioapaaGreat
section
open Go Go.RowKit Go.Co Go.Sim Go.Conc Go.ConcN Go.ChangeShapes Go.WideShapes
def tg:MP 9:=λD b c _ _ _ _ _ _ _ _ _ _ _ _ _ e d i f g a=>el9 D b c (by kernel_rfl) (by kernel_rfl) e d i (λh=>f (by omega)) (λh=>g (by omega)) a
def oJ(os:Os)(d:os.Started)(H:Type)(enc:NZ × Ny->H) :ReturnsInLeavingWide {} Ys os 9 .any (Rows.pileMendsSpec.pre6 enc NV VF [] NC) (Rows.pileMendsSpec.post enc NV VF NC NB NC NC):=by
 refine returnsInLeavingWide_of_good (C:=Ys) Tryz.own d (ChangeSpec.witness6 (enc:=enc) (C:=Ys) (f:=9) (s:=Rows.pileMendsSpec) (fn:=VF) NC ⟨#[],#[.agg #[.slice Ns 0 0,.int .i64 0],.agg #[.int .i64 0,.int .i64 0,.int .i64 0,.int .i64 0],.slice Ns 0 0,.int .i64 0,.slice Ns 0 0],[]⟩ 8 (by kernel_rfl) (by kernel_rfl) (by kernel_rfl) (by kernel_rfl)) ?_;intro w tape i _ Z _ a7 P _;obtain⟨_,_,_,b8,Q,_,_,_,l5,a⟩:=a7;have e:b8=VF:=QQ (Q.symm.trans VP);subst e;obtain⟨⟨ds,gs,S,hw,hc⟩,hz⟩:=P;have hW:=DataW.Whole.of_heap (w':=w.forCall tape i) (by rfl) hw;have k:=Mj Z;generalize m3:w.forCall tape i=W at hW a k ⊢;have a:∀(j:NA) t v,Tryz.f9.params[j]?=Nq t->i.args[j]?=Nq v->Value.okWide NV W .any w.heap.size t v:=a;have u:=hW;obtain⟨p,q,R,b7,rfl,l9,l7⟩:=hW;have c:DataW.TrodAll enc NV W 0 (λ_=>NB) NB Tryz.f9.params.toList i.args.toList ds p:=R;rw[Tryz.params9] at c a;have a9:i.args=i.args:=rfl;generalize i.args=args at c a R u ⊢;obtain⟨v0,g5,d0,n8,D,q0,b0,rfl,rfl,h0,c⟩:=trodAll_cons c;obtain⟨v1,e9,d1,n7,B,q1,rfl,rfl,rfl,h1,c⟩:=trodAll_cons c;obtain⟨v2,e8,d2,n6,A,q2,rfl,rfl,rfl,h2,c⟩:=trodAll_cons c;obtain⟨v3,e7,d3,n4,z,q3,rfl,rfl,rfl,h3,c⟩:=trodAll_cons c;obtain⟨v4,e6,d4,n3,y,q4,rfl,rfl,rfl,h4,c⟩:=trodAll_cons c;obtain⟨rfl,rfl,rfl⟩:=trodAll_nil c;obtain⟨rfl,rfl⟩:=trodVars_none b7;obtain rfl:args=#[v0,v1,v2,v3,v4]:=sM b0;obtain⟨yb,ny,yc,x1,rfl,L,-⟩:=Iy (a 0 24 v0 rfl rfl);obtain⟨lb,nl,lc,rfl,O,a8⟩:=pj Ta (a 2 29 v2 rfl rfl);obtain⟨a0,T,cap,rfl,M,-⟩:=pj Ta (a 4 29 v4 rfl rfl);obtain⟨n,rfl⟩:=okWide_int SI (a 3 3 v3 rfl rfl);obtain⟨pc,rfl,-⟩:=okWide_struct Tryz.underlying28 (a 1 28 v1 rfl rfl);obtain⟨f0,g0⟩:=h0;obtain⟨f1,g1⟩:=h1;obtain⟨f2,g2⟩:=h2;obtain⟨f4,g4⟩:=h4;obtain⟨⟨lim,rfl⟩,ky⟩:=EA L g0;have⟨r,a6⟩:=pD g1;obtain rfl:pc=#[.int .i64 r.mn,.int .i64 r.mx,.int .i64 r.bears,.int .i64 r.tall]:=sM a6;have kl:=(yQ O g2).2;have I:=yQ M g4;simp only[SV] at u;have l:∀x,x∈D\/x∈B\/x∈A\/x∈z\/x∈y->x.block<W.heap.size:=λx g=>by
  have:=u.lt x (by simp only[Qb];rcases g with h | h | h | h | h<;>simp[h]);simpa using this
 have⟨N,G,o,w',t',Y,X,V,U⟩:=DL (f:=9) (by decide) (by rfl) tg (W:=W) (p:=r) (n:=n) (lim:=lim) (yc:=yc) (lc:=lc) (cap:=cap) (Post:=λv W'=>Rows.pileMendsSpec.post enc NV VF NC NB NC NC W #[.agg #[.slice yb ny yc,.int .i64 lim],.agg #[.int .i64 r.mn,.int .i64 r.mx,.int .i64 r.bears,.int .i64 r.tall],.slice lb nl lc,.int .i64 n,.slice a0 T cap] v W') L O M I.1 I.2 k ky kl a8 (λW' Y X V U=>by
  have F:Below W.heap.size W { W' with tape:=W.tape }:=⟨X,rfl,V,U,Y⟩;have t0:DataW.Trod enc NV W' 0 (λb=>decide (b<W.heap.size)) NB 24 _ d0 D:=(Below.trod Tryz.laidOut (by kernel_rfl) (of_decide_eq_true (by kernel_rfl)) ⟨f0,g0⟩ F (λx g=>l x (.inl g))).of_heap (by rfl);have t1:DataW.Trod enc NV W' 0 (λb=>decide (b<W.heap.size)) NB 28 _ d1 B:=(Below.trod Tryz.laidOut (by kernel_rfl) (of_decide_eq_true (by kernel_rfl)) ⟨f1,g1⟩ F (λx g=>l x (.inr (.inl g)))).of_heap (by rfl);have t2:DataW.Trod enc NV W' 0 (λb=>decide (b<W.heap.size)) NB 29 _ d2 A:=(Below.trod Tryz.laidOut (by kernel_rfl) (of_decide_eq_true (by kernel_rfl)) ⟨f2,g2⟩ F (λx g=>l x (.inr (.inr (.inl g))))).of_heap (by rfl);have t3:DataW.Trod enc NV W' 0 (λb=>decide (b<W.heap.size)) NB 3 _ d3 z:=(Below.trod Tryz.laidOut (by kernel_rfl) (of_decide_eq_true (by kernel_rfl)) h3 F (λx g=>l x (.inr (.inr (.inr (.inl g)))))).of_heap (by rfl);have t4:DataW.Trod enc NV W' 0 (λb=>decide (b<W.heap.size)) NB 29 _ d4 y:=(Below.trod Tryz.laidOut (by kernel_rfl) (of_decide_eq_true (by kernel_rfl)) ⟨f4,g4⟩ F (λx g=>l x (.inr (.inr (.inr (.inr g)))))).of_heap (by rfl);have hk:W.keptBut W' (λx=>x∈D++(B++(A++(z++y)))/\(x∈([]:Nu UV)\/x∈D++(B++(A++(z++y)))\/x∈([]:Nu UV))):=(F.frame (λx=>x∈D++(B++(A++(z++y)))/\(x∈([]:Nu UV)\/x∈D++(B++(A++(z++y)))\/x∈([]:Nu UV))) :);exact⟨_,_,_,[],D++(B++(A++(z++y))),[],u,trodAll_mk1 (shut_bool Tryz.underlying4 NB),⟨D,B++(A++(z++y)),t0,trodAll_mk4 t1 t2 t3 t4,rfl⟩,rfl,hk,λh=>by cases h⟩)
 exact⟨N,G,o,w',t',Y,X,V,U.mono λv hp=>ChangeSpec.post_blind hp⟩
def vQ:(Rows.pileMendsRow.inPlace == Tryz.prog.inPlace 9)=NB:=by kernel_rfl
def vP:(Rows.pileMendsRow.unfollowed == Tryz.prog.unfollowed 9)=NB:=by kernel_rfl
def vO:(Rows.pileMendsRow.recurses == Tryz.prog.recurses 9)=NB:=by kernel_rfl
def vN:(Rows.pileMendsRow.named == Tryz.prog.varsNamed 9)=NB:=by kernel_rfl
def vM:Rows.pileMendsRow.wf (OpenSpec.ofChange Rows.pileMendsSpec)=NB:=by kernel_rfl
def pZ:joinedFacts NV 9 VF Rows.pileMendsSpec Rows.pileMendsRow=NB:=by
 unfold joinedFacts;rw[vQ,vP,vO,vN,vM,Tryz.laidOut,Lm,Jt,Jv,show(Rows.pileMendsRow.plainKeys == Tryz.prog.plainKeys)=NB from Lo,Jw,Mv,show(Rows.pileMendsRow.lifted == Tryz.prog.liftsFinal)=NB from Ju,show(Tryz.prog.make == Nq Rows.pileMendsRow.make)=NB from Ln];kernel_rfl
theorem pileMends_holds:Rows.PileMendsSaid :=
 OpenClaim.holds_of_wide_leaving 9 VF rfl rfl rfl rfl rfl rfl rfl ⟨rfl,rfl,rfl,rfl,rfl⟩ rfl rfl rfl rfl rfl (by kernel_rfl) VP pZ
  (of_decide_eq_true (by kernel_rfl)) (by unfold Func.isWrapper;rw[if_neg (of_decide_eq_false (by kernel_rfl))];exact⟨rfl,rfl⟩)
  (λc a H b _=>oJ c a H b)
#print axioms pileMends_holds
end
end Go.Proofs.YtidgnkmjgioapaaGreat
