/-
  gladstonelaw04.PileVerdicts answers true for every yard, parcel, pile, number and list of numbers that the statement takes, and leaves its arguments as they were. No conditions.
-/
import Derived.Test.YtidgnkmjgioapaaGreatJ5
set_option maxRecDepth 100000
set_option maxHeartbeats 8000000
set_option linter.all false
open Go renaming MemPlace->qos,TypeId->qid,Value->qhC
open Go.Proofs.Tryz renaming checked->qrs,f20->qon,func20->qp7,prog->qi8,underlying29->qmv
open List renaming append_nil->qo3,mem_append->qkn
open Option.some renaming inj->qkH
namespace Go.Proofs.YtidgnkmjgioapaaGreat
section
open Go Go.RowKit Go.Co Go.Sim Go.Conc Go.ConcN Go.ChangeShapes Go.WideShapes
def JG:qhm 20:=λD b c _ _ _ _ _ _ _ _ _ _ _ _ _ e d i f g a=>el20 D b c (by kernel_rfl) (by kernel_rfl) e d i (λh=>f (by omega)) (λh=>g (by omega)) a
def Zb(os:Os)(d:os.Started)(H:Type)(enc:qid × qhC->H) :ReturnsInLeavingWide {} qrs os 20 .any (Rows.pileVerdictsSpec.pre6 enc qi8 qon [] false) (Rows.pileVerdictsSpec.post enc qi8 qon false true false false):=by
 refine returnsInLeavingWide_of_good (C:=qrs) Tryz.own d (ChangeSpec.witness6 (enc:=enc) (C:=qrs) (f:=20) (s:=Rows.pileVerdictsSpec) (fn:=qon) false ⟨#[],#[.agg #[.slice none 0 0,.int .i64 0],.agg #[.int .i64 0,.int .i64 0,.int .i64 0,.int .i64 0],.slice none 0 0,.int .i64 0,.slice none 0 0],[]⟩ 8 (by kernel_rfl) (by kernel_rfl) (by kernel_rfl) (by kernel_rfl)) ?_;intro w tape i _ Z _ a7 P _;obtain⟨_,_,_,b8,Q,_,_,_,l5,a⟩:=a7;have e:b8=qon:=qkH (Q.symm.trans qp7);subst e;obtain⟨⟨ds,gs,S,hw,hc⟩,hz⟩:=P;have hW:=DataW.Whole.of_heap (w':=w.forCall tape i) (by rfl) hw;have k:=qgC Z;generalize m3:w.forCall tape i=W at hW a k ⊢;have a:∀(j:Nat) t v,Tryz.f20.params[j]?=some t->i.args[j]?=some v->Value.okWide qi8 W .any w.heap.size t v:=a;have u:=hW;obtain⟨p,q,R,b7,rfl,l9,l7⟩:=hW;have c:DataW.TrodAll enc qi8 W 0 (λ_=>true) true Tryz.f20.params.toList i.args.toList ds p:=R;rw[Tryz.params20] at c a;have a9:i.args=i.args:=rfl;generalize i.args=args at c a R u ⊢;obtain⟨v0,g5,d0,n8,D,q0,b0,rfl,rfl,h0,c⟩:=trodAll_cons c;obtain⟨v1,e9,d1,n7,B,q1,rfl,rfl,rfl,h1,c⟩:=trodAll_cons c;obtain⟨v2,e8,d2,n6,A,q2,rfl,rfl,rfl,h2,c⟩:=trodAll_cons c;obtain⟨v3,e7,d3,n4,z,q3,rfl,rfl,rfl,h3,c⟩:=trodAll_cons c;obtain⟨v4,e6,d4,n3,y,q4,rfl,rfl,rfl,h4,c⟩:=trodAll_cons c;obtain⟨rfl,rfl,rfl⟩:=trodAll_nil c;obtain⟨rfl,rfl⟩:=trodVars_none b7;obtain rfl:args=#[v0,v1,v2,v3,v4]:=q0j b0;obtain⟨yb,ny,yc,x1,rfl,L,-⟩:=qdf (a 0 24 v0 rfl rfl);obtain⟨lb,nl,lc,rfl,O,a8⟩:=Y0 qmv (a 2 29 v2 rfl rfl);obtain⟨a0,T,cap,rfl,M,-⟩:=Y0 qmv (a 4 29 v4 rfl rfl);obtain⟨n,rfl⟩:=okWide_int Tryz.underlying3 (a 3 3 v3 rfl rfl);obtain⟨pc,rfl,-⟩:=okWide_struct Tryz.underlying28 (a 1 28 v1 rfl rfl);obtain⟨f0,g0⟩:=h0;obtain⟨f1,g1⟩:=h1;obtain⟨f2,g2⟩:=h2;obtain⟨f4,g4⟩:=h4;obtain⟨⟨lim,rfl⟩,ky⟩:=qad L g0;have⟨r,a6⟩:=Yj g1;obtain rfl:pc=#[.int .i64 r.mn,.int .i64 r.mx,.int .i64 r.bears,.int .i64 r.tall]:=q0j a6;have kl:=(q50 O g2).2;have I:=q50 M g4;simp only[qo3] at u;have l:∀x,x∈D\/x∈B\/x∈A\/x∈z\/x∈y->x.block<W.heap.size:=λx g=>by
  have:=u.lt x (by simp only[qkn];rcases g with h | h | h | h | h<;>simp[h]);simpa using this
 have⟨N,G,o,w',t',Y,X,V,U⟩:=q9j (f:=20) (by decide) (by rfl) JG (W:=W) (p:=r) (n:=n) (lim:=lim) (yc:=yc) (lc:=lc) (cap:=cap) (Post:=λv W'=>Rows.pileVerdictsSpec.post enc qi8 qon false true false false W #[.agg #[.slice yb ny yc,.int .i64 lim],.agg #[.int .i64 r.mn,.int .i64 r.mx,.int .i64 r.bears,.int .i64 r.tall],.slice lb nl lc,.int .i64 n,.slice a0 T cap] v W') L O M I.1 I.2 k ky kl a8 (λW' Y X V U=>by
  have F:Below W.heap.size W { W' with tape:=W.tape }:=⟨X,rfl,V,U,Y⟩;have t0:DataW.Trod enc qi8 W' 0 (λb=>decide (b<W.heap.size)) true 24 _ d0 D:=(Below.trod Tryz.laidOut (by kernel_rfl) (of_decide_eq_true (by kernel_rfl)) ⟨f0,g0⟩ F (λx g=>l x (.inl g))).of_heap (by rfl);have t1:DataW.Trod enc qi8 W' 0 (λb=>decide (b<W.heap.size)) true 28 _ d1 B:=(Below.trod Tryz.laidOut (by kernel_rfl) (of_decide_eq_true (by kernel_rfl)) ⟨f1,g1⟩ F (λx g=>l x (.inr (.inl g)))).of_heap (by rfl);have t2:DataW.Trod enc qi8 W' 0 (λb=>decide (b<W.heap.size)) true 29 _ d2 A:=(Below.trod Tryz.laidOut (by kernel_rfl) (of_decide_eq_true (by kernel_rfl)) ⟨f2,g2⟩ F (λx g=>l x (.inr (.inr (.inl g))))).of_heap (by rfl);have t3:DataW.Trod enc qi8 W' 0 (λb=>decide (b<W.heap.size)) true 3 _ d3 z:=(Below.trod Tryz.laidOut (by kernel_rfl) (of_decide_eq_true (by kernel_rfl)) h3 F (λx g=>l x (.inr (.inr (.inr (.inl g)))))).of_heap (by rfl);have t4:DataW.Trod enc qi8 W' 0 (λb=>decide (b<W.heap.size)) true 29 _ d4 y:=(Below.trod Tryz.laidOut (by kernel_rfl) (of_decide_eq_true (by kernel_rfl)) ⟨f4,g4⟩ F (λx g=>l x (.inr (.inr (.inr (.inr g)))))).of_heap (by rfl);have hk:W.keptBut W' (λx=>x∈D++(B++(A++(z++y)))/\(x∈([]:List qos)\/x∈D++(B++(A++(z++y)))\/x∈([]:List qos))):=(F.frame (λx=>x∈D++(B++(A++(z++y)))/\(x∈([]:List qos)\/x∈D++(B++(A++(z++y)))\/x∈([]:List qos))) :);exact⟨_,_,_,[],D++(B++(A++(z++y))),[],u,trodAll_mk1 (shut_bool Tryz.underlying4 true),⟨D,B++(A++(z++y)),t0,trodAll_mk4 t1 t2 t3 t4,rfl⟩,rfl,hk,λh=>by cases h⟩)
 exact⟨N,G,o,w',t',Y,X,V,U.mono λv hp=>ChangeSpec.post_blind hp⟩
def YJ:(Rows.pileVerdictsRow.inPlace == Tryz.prog.inPlace 20)=true:=by kernel_rfl
def YI:(Rows.pileVerdictsRow.unfollowed == Tryz.prog.unfollowed 20)=true:=by kernel_rfl
def YH:(Rows.pileVerdictsRow.recurses == Tryz.prog.recurses 20)=true:=by kernel_rfl
def YG:(Rows.pileVerdictsRow.named == Tryz.prog.varsNamed 20)=true:=by kernel_rfl
def YF:Rows.pileVerdictsRow.wf (OpenSpec.ofChange Rows.pileVerdictsSpec)=true:=by kernel_rfl
def ZB:joinedFacts qi8 20 qon Rows.pileVerdictsSpec Rows.pileVerdictsRow=true:=by
 unfold joinedFacts;rw[YJ,YI,YH,YG,YF,Tryz.laidOut,qg2,qe9,qeb,show(Rows.pileVerdictsRow.plainKeys == Tryz.prog.plainKeys)=true from qg4,qec,qh8,show(Rows.pileVerdictsRow.lifted == Tryz.prog.liftsFinal)=true from qea,show(Tryz.prog.make == some Rows.pileVerdictsRow.make)=true from qg3];kernel_rfl
theorem pileVerdicts_holds:Rows.PileVerdictsSaid :=
 OpenClaim.holds_of_wide_leaving 20 qon rfl rfl rfl rfl rfl rfl rfl ⟨rfl,rfl,rfl,rfl,rfl⟩ rfl rfl rfl rfl rfl (by kernel_rfl) qp7 ZB
  (of_decide_eq_true (by kernel_rfl)) (by unfold Func.isWrapper;rw[if_neg (of_decide_eq_false (by kernel_rfl))];exact⟨rfl,rfl⟩)
  (λc a H b _=>Zb c a H b)
#print axioms pileVerdicts_holds
end
end Go.Proofs.YtidgnkmjgioapaaGreat
