/-
  gladstonelaw04.PileNumbered answers true for every list of numbers, and leaves its argument as it was. No conditions.
-/
import Derived.Test.YtidgnkmjgioapaaGreatJ5
set_option maxRecDepth 100000
set_option maxHeartbeats 8000000
set_option linter.all false
open Bool renaming false->LH,true->LG
open Go renaming MemPlace->Xh,TypeId->LZ,Value->LA,maxLen->Qe
open Go.Proofs.Tryz renaming checked->Wh,f15->SJ,func15->Vd,prog->Ma,underlying29->QC
open Option renaming none->Lw,some->Lq
open Option.some renaming inj->OQ
open _root_ renaming Int->LJ,List->Lx,Nat->Ly
namespace Go.Proofs.YtidgnkmjgioapaaGreat
section
open Go Go.RowKit Go.Co Go.Sim Go.Conc Go.ConcN Go.ChangeShapes Go.WideShapes
def nZ:FG 15:=λD b c _ _ _ _ e d f a=>Li D b c (by kernel_rfl) (by kernel_rfl) e d f a
def lz(os:Os)(k:os.Started)(H:Type)(enc:LZ × LA->H) :ReturnsInLeavingWide {} Wh os 15 .any (Rows.pileNumberedSpec.pre6 enc Ma SJ [] LH) (Rows.pileNumberedSpec.post enc Ma SJ LH LG LH LH):=by
 refine returnsInLeavingWide_of_good (C:=Wh) Tryz.own k (ChangeSpec.witness6 (enc:=enc) (C:=Wh) (f:=15) (s:=Rows.pileNumberedSpec) (fn:=SJ) LH ⟨#[],#[.slice Lw 0 0],[]⟩ 8 (by kernel_rfl) (by kernel_rfl) (by kernel_rfl) (by kernel_rfl)) ?_;intro w tape i _ T _ U F _;obtain⟨_,_,_,a8,G,_,_,_,g5,d⟩:=U;have e:a8=SJ:=OQ (G.symm.trans Vd);subst e;obtain⟨⟨ds,gs,Q,hw,X⟩,R⟩:=F;have Y:=DataW.Whole.of_heap (w':=w.forCall tape i) (by rfl) hw;clear hw X R;have l:=JX T;generalize h8:w.forCall tape i=W at Y d l ⊢;have d:∀(j:Ly) t v,Tryz.f15.params[j]?=Lq t->i.args[j]?=Lq v->Value.okWide Ma W .any w.heap.size t v:=d;have r:=Y;obtain⟨p,q,I,Z,rfl,g8,g6⟩:=Y;have hA:DataW.TrodAll enc Ma W 0 (λ_=>LG) LG Tryz.f15.params.toList i.args.toList ds p:=I;rw[Tryz.params15] at hA d;generalize i.args=args at hA d I r ⊢;obtain⟨v0,d0,rfl,rfl,M⟩:=trodAll_one hA;obtain⟨rfl,rfl⟩:=trodVars_none Z;have B:=d 0 29 v0 rfl rfl;obtain⟨a0,len,cap,rfl⟩:=okWide_slice QC B;have a7:=M;obtain⟨c9,hf⟩:=M;simp only[List.append_nil] at r;have V:∀x∈p,x.block<W.heap.size:=λx S=>by simpa using r.lt x S
 have D:∀a,a0=Lq a->a.spot=Lw/\∃cs e g,W.heap[a.block]?=Lq (.cells cs e g):=by
  rintro a rfl;have h:=B;simp only[Value.okWide,QC,Cell.okWide,Cell.ok,World.has] at h;obtain⟨_,_,_,y,d9,b0,L,_⟩:=h;refine⟨y,?_⟩;unfold World.shape? at L;split at L
  ·rename_i c e g X
   exact⟨c,e,g,X⟩
  ·cases L
 have A:(len:LJ)<=9223372036854775807/\(0<len->∃P O,a0=Lq ⟨P,O,Lw⟩/\∀i,i<len->∃x,W.cell? ⟨P,O+i,Lw⟩=Lq (.int .i64 x)):=by
  rcases open_ints QC Tryz.underlying3 (show Tryz.prog.cellsOf 3=1 by kernel_rfl) hf with⟨n,S⟩ | ⟨a,b7,d5,zs,n,_,hl,hm,R,S,u,e8⟩
  ·simp[Value.cells] at n;obtain⟨rfl,rfl,rfl⟩:=n;exact⟨by omega,λh=>by omega⟩
  ·simp[Value.cells] at n;obtain⟨rfl,rfl,rfl⟩:=n;simp only[if_true] at R;refine⟨by simp only[Qe] at hm;omega,λhp=>?_⟩;obtain⟨hs,-⟩:=D a rfl;obtain⟨P,O,sp⟩:=a;dsimp only at hs;subst hs;refine⟨P,O,rfl,λi hi=>⟨zs.getD i 0,?_⟩⟩;have y:=u i (by omega);by_cases M:i=0
   ·subst M;simpa[Addr.add] using y
   ·simpa[Addr.add,M] using y
 have⟨N,z,o,w',t',y,L,h3,h4⟩:=Es (f:=15) (by decide) (by rfl) nZ (W:=W) (a0:=a0) (len:=len) (cap:=cap) (Post:=λv W'=>Rows.pileNumberedSpec.post enc Ma SJ LH LG LH LH W #[.slice a0 len cap] v W') D A.1 A.2 l (λW' k1 k2 k3 k4=>by
  have hb:Below W.heap.size W { W' with tape:=W.tape }:=⟨k2,rfl,k3,k4,k1⟩;have ht:DataW.Trod enc Ma W' 0 (λb=>decide (b<W.heap.size)) LG 29 (.slice a0 len cap) d0 p:=(Below.trod Tryz.laidOut (by kernel_rfl) (of_decide_eq_true (by kernel_rfl)) a7 hb V).of_heap (by rfl);have hk:W.keptBut W' (λx=>x∈p/\(x∈([]:Lx Xh)\/x∈p\/x∈([]:Lx Xh))):=(hb.frame (λx=>x∈p/\(x∈([]:Lx Xh)\/x∈p\/x∈([]:Lx Xh))) :);exact⟨_,_,_,[],p,[],r,trodAll_mk1 (shut_bool Tryz.underlying4 LG),trodAll_mk1 ht,rfl,hk,λh=>by cases h⟩)
 exact⟨N,z,o,w',t',y,L,h3,h4.mono λv hp=>ChangeSpec.post_blind hp⟩
def pH:(Rows.pileNumberedRow.inPlace == Tryz.prog.inPlace 15)=LG:=by kernel_rfl
def pG:(Rows.pileNumberedRow.unfollowed == Tryz.prog.unfollowed 15)=LG:=by kernel_rfl
def pF:(Rows.pileNumberedRow.recurses == Tryz.prog.recurses 15)=LG:=by kernel_rfl
def pE:(Rows.pileNumberedRow.named == Tryz.prog.varsNamed 15)=LG:=by kernel_rfl
def pD:Rows.pileNumberedRow.wf (OpenSpec.ofChange Rows.pileNumberedSpec)=LG:=by kernel_rfl
def mf:joinedFacts Ma 15 SJ Rows.pileNumberedSpec Rows.pileNumberedRow=LG:=by
 unfold joinedFacts;rw[pH,pG,pF,pE,pD,Tryz.laidOut,Je,GK,GO,show(Rows.pileNumberedRow.plainKeys == Tryz.prog.plainKeys)=LG from Jg,GP,Kj,show(Rows.pileNumberedRow.lifted == Tryz.prog.liftsFinal)=LG from GL,show(Tryz.prog.make == Lq Rows.pileNumberedRow.make)=LG from Jf];kernel_rfl
theorem pileNumbered_holds:Rows.PileNumberedSaid :=
 OpenClaim.holds_of_wide_leaving 15 SJ rfl rfl rfl rfl rfl rfl rfl ⟨rfl,rfl,rfl,rfl,rfl⟩ rfl rfl rfl rfl rfl (by kernel_rfl) Vd mf
  (of_decide_eq_true (by kernel_rfl)) (by unfold Func.isWrapper;rw[if_neg (of_decide_eq_false (by kernel_rfl))];exact⟨rfl,rfl⟩)
  (λc a H b _=>lz c a H b)
#print axioms pileNumbered_holds
end
end Go.Proofs.YtidgnkmjgioapaaGreat
