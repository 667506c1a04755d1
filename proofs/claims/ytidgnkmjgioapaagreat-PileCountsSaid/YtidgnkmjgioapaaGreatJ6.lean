/-
  gladstonelaw04.PileCounts answers true for every yard, parcel and list of numbers that the statement takes, and leaves its arguments as they were. No conditions.
-/
import Derived.Test.YtidgnkmjgioapaaGreatJ5
set_option maxRecDepth 100000
set_option maxHeartbeats 8000000
set_option linter.all false
open Go renaming MemPlace->qoq,TypeId->qi4,Value->qhu
open Go.Proofs.Tryz renaming checked->qrm,f11->qol,func11->qp4,prog->qi2
open List renaming mem_append->qku
open Option.some renaming inj->qkD
namespace Go.Proofs.YtidgnkmjgioapaaGreat
section
open Go Go.RowKit Go.Co Go.Sim Go.Conc Go.ConcN Go.ChangeShapes Go.WideShapes
def YX:qhf 11:=λD b c _ _ _ _ _ _ _ _ _ e d g f a=>el11 D b c (by kernel_rfl) (by kernel_rfl) e d g (λh=>f (by omega)) a
def ZN(os:Os)(c:os.Started)(H:Type)(enc:qi4 × qhu->H) :ReturnsInLeavingWide {} qrm os 11 .any (Rows.pileCountsSpec.pre6 enc qi2 qol [] false) (Rows.pileCountsSpec.post enc qi2 qol false true false false):=by
 refine returnsInLeavingWide_of_good (C:=qrm) Tryz.own c (ChangeSpec.witness6 (enc:=enc) (C:=qrm) (f:=11) (s:=Rows.pileCountsSpec) (fn:=qol) false ⟨#[],#[.agg #[.slice none 0 0,.int .i64 0],.agg #[.int .i64 0,.int .i64 0,.int .i64 0,.int .i64 0],.slice none 0 0],[]⟩ 8 (by kernel_rfl) (by kernel_rfl) (by kernel_rfl) (by kernel_rfl)) ?_;intro w tape i _ U _ X G _;obtain⟨_,_,_,a8,I,_,_,_,e9,a⟩:=X;have e:a8=qol:=qkD (I.symm.trans qp4);subst e;obtain⟨⟨ds,gs,O,hw,hc⟩,hz⟩:=G;have hW:=DataW.Whole.of_heap (w':=w.forCall tape i) (by rfl) hw;have d:=qgw U;generalize g9:w.forCall tape i=W at hW a d ⊢;have a:∀(j:Nat) t v,Tryz.f11.params[j]?=some t->i.args[j]?=some v->Value.okWide qi2 W .any w.heap.size t v:=a;have k:=hW;obtain⟨p,q,L,a7,rfl,g8,g6⟩:=hW;have l:DataW.TrodAll enc qi2 W 0 (λ_=>true) true Tryz.f11.params.toList i.args.toList ds p:=L;rw[Tryz.params11] at l a;have Y:i.args=i.args:=rfl;generalize i.args=args at l a L k ⊢;obtain⟨v0,d6,d0,k8,u,q0,Z,rfl,rfl,h0,l⟩:=trodAll_cons l;obtain⟨v1,d5,d1,k7,r,q1,rfl,rfl,rfl,h1,l⟩:=trodAll_cons l;obtain⟨v2,c9,d2,k6,n,q2,rfl,rfl,rfl,h2,l⟩:=trodAll_cons l;obtain⟨rfl,rfl,rfl⟩:=trodAll_nil l;obtain⟨rfl,rfl⟩:=trodVars_none a7;obtain rfl:args=#[v0,v1,v2]:=KT Z;obtain⟨yb,ny,yc,x1,rfl,D,-⟩:=qcF (a 0 24 v0 rfl rfl);obtain⟨a0,P,cap,rfl,F,-⟩:=q3d Tryz.underlying29 (a 2 29 v2 rfl rfl);obtain⟨pc,rfl,-⟩:=okWide_struct Tryz.underlying28 (a 1 28 v1 rfl rfl);obtain⟨f0,g0⟩:=h0;obtain⟨f1,g1⟩:=h1;obtain⟨f2,g2⟩:=h2;obtain⟨⟨lim,rfl⟩,ky⟩:=q9F D g0;have⟨g,V⟩:=JI g1;obtain rfl:pc=#[.int .i64 g.mn,.int .i64 g.mx,.int .i64 g.bears,.int .i64 g.tall]:=KT V;have B:=qbx F g2;simp only[List.append_nil] at k;have z:∀x,x∈u\/x∈r\/x∈n->x.block<W.heap.size:=λx y=>by
  have:=k.lt x (by simp only[qku];rcases y with h | h | h<;>simp[h]);simpa using this
 have⟨N,A,o,w',t',T,S,R,Q⟩:=q92 (f:=11) (by decide) (by rfl) YX (W:=W) (p:=g) (lim:=lim) (yc:=yc) (cap:=cap) (Post:=λv W'=>Rows.pileCountsSpec.post enc qi2 qol false true false false W #[.agg #[.slice yb ny yc,.int .i64 lim],.agg #[.int .i64 g.mn,.int .i64 g.mx,.int .i64 g.bears,.int .i64 g.tall],.slice a0 P cap] v W') D F B.1 B.2 d ky (λW' T S R Q=>by
  have M:Below W.heap.size W { W' with tape:=W.tape }:=⟨S,rfl,R,Q,T⟩;have t0:DataW.Trod enc qi2 W' 0 (λb=>decide (b<W.heap.size)) true 24 _ d0 u:=(Below.trod Tryz.laidOut (by kernel_rfl) (of_decide_eq_true (by kernel_rfl)) ⟨f0,g0⟩ M (λx y=>z x (.inl y))).of_heap (by rfl);have t1:DataW.Trod enc qi2 W' 0 (λb=>decide (b<W.heap.size)) true 28 _ d1 r:=(Below.trod Tryz.laidOut (by kernel_rfl) (of_decide_eq_true (by kernel_rfl)) ⟨f1,g1⟩ M (λx y=>z x (.inr (.inl y)))).of_heap (by rfl);have t2:DataW.Trod enc qi2 W' 0 (λb=>decide (b<W.heap.size)) true 29 _ d2 n:=(Below.trod Tryz.laidOut (by kernel_rfl) (of_decide_eq_true (by kernel_rfl)) ⟨f2,g2⟩ M (λx y=>z x (.inr (.inr y)))).of_heap (by rfl);have hk:W.keptBut W' (λx=>x∈u++(r++n)/\(x∈([]:List qoq)\/x∈u++(r++n)\/x∈([]:List qoq))):=(M.frame (λx=>x∈u++(r++n)/\(x∈([]:List qoq)\/x∈u++(r++n)\/x∈([]:List qoq))) :);exact⟨_,_,_,[],u++(r++n),[],k,trodAll_mk1 (shut_bool Tryz.underlying4 true),⟨u,r++n,t0,trodAll_mk2 t1 t2,rfl⟩,rfl,hk,λh=>by cases h⟩)
 exact⟨N,A,o,w',t',T,S,R,Q.mono λv hp=>ChangeSpec.post_blind hp⟩
def q0b:(Rows.pileCountsRow.inPlace == Tryz.prog.inPlace 11)=true:=by kernel_rfl
def q0a:(Rows.pileCountsRow.unfollowed == Tryz.prog.unfollowed 11)=true:=by kernel_rfl
def q09:(Rows.pileCountsRow.recurses == Tryz.prog.recurses 11)=true:=by kernel_rfl
def q08:(Rows.pileCountsRow.named == Tryz.prog.varsNamed 11)=true:=by kernel_rfl
def q07:Rows.pileCountsRow.wf (OpenSpec.ofChange Rows.pileCountsSpec)=true:=by kernel_rfl
def Jj:joinedFacts qi2 11 qol Rows.pileCountsSpec Rows.pileCountsRow=true:=by
 unfold joinedFacts;rw[q0b,q0a,q09,q08,q07,Tryz.laidOut,qfA,qdC,qdE,show(Rows.pileCountsRow.plainKeys == Tryz.prog.plainKeys)=true from qfC,qdF,qh0,show(Rows.pileCountsRow.lifted == Tryz.prog.liftsFinal)=true from qdD,show(Tryz.prog.make == some Rows.pileCountsRow.make)=true from qfB];kernel_rfl
theorem pileCounts_holds:Rows.PileCountsSaid :=
 OpenClaim.holds_of_wide_leaving 11 qol rfl rfl rfl rfl rfl rfl rfl ⟨rfl,rfl,rfl,rfl,rfl⟩ rfl rfl rfl rfl rfl (by kernel_rfl) qp4 Jj
  (of_decide_eq_true (by kernel_rfl)) (by unfold Func.isWrapper;rw[if_neg (of_decide_eq_false (by kernel_rfl))];exact⟨rfl,rfl⟩)
  (λc a H b _=>ZN c a H b)
#print axioms pileCounts_holds
end
end Go.Proofs.YtidgnkmjgioapaaGreat
