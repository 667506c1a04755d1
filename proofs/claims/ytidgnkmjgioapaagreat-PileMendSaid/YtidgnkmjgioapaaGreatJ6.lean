/-
  PileMend answers true for every list and keeps it. No conditions.
-/
import Derived.Test.YtidgnkmjgioapaaGreatJ5
set_option maxRecDepth 100000
set_option maxHeartbeats 8000000
set_option linter.all false
open Go renaming TypeId->qh5,Value->qgx,maxLen->qky
open Go.Proofs.Tryz renaming checked->qqe,f10->qnd,func10->qnC,prog->qh3,underlying29->qll
open Option.some renaming inj->qkk
namespace Go.Proofs.YtidgnkmjgioapaaGreat
section
open Go Go.RowKit Go.Co Go.Sim Go.Conc Go.ConcN Go.ChangeShapes Go.WideShapes
theorem q1r:qc8 10:=λD hok a7 _ _ _ _ hl hr h0 a6=>el10 D hok a7 (by kernel_rfl) (by kernel_rfl) hl hr h0 a6
theorem JF(os:Os)(a7:os.Started)(H:Type)(enc:qh5 × qgx->H) :ReturnsInLeavingWide {} qqe os 10 .any (Rows.pileMendSpec.pre6 enc qh3 qnd [] false) (Rows.pileMendSpec.post enc qh3 qnd false true false false):=by
 refine returnsInLeavingWide_of_good (C:=qqe) Tryz.own a7 (ChangeSpec.witness6 (enc:=enc) (C:=qqe) (f:=10) (s:=Rows.pileMendSpec) (fn:=qnd) false ⟨#[],#[.slice none 0 0],[]⟩ 8 (by kernel_rfl) (by kernel_rfl) (by kernel_rfl) (by kernel_rfl)) ?_;intro w tape i _ c3 _ hok b6 _;obtain⟨_,_,_,d5,b7,_,_,_,hsz,a6⟩:=hok;have e:d5=qnd:=qkk (b7.symm.trans qnC);subst e;obtain⟨⟨ds,gs,b9,hw,hc⟩,hz⟩:=b6;have hW:=DataW.Whole.of_heap (w':=w.forCall tape i) (by rfl) hw;clear hw hc hz;have a8:=qfA c3;generalize d7:w.forCall tape i=W at hW a6 a8 ⊢;have a6:∀(j:Nat) t v,Tryz.f10.params[j]?=some t->i.args[j]?=some v->Value.okWide qh3 W .any w.heap.size t v:=a6;have a9:=hW;obtain⟨p,q,b8,c8,rfl,hfz,d6⟩:=hW;have hA:DataW.TrodAll enc qh3 W 0 (λ_=>true) true Tryz.f10.params.toList i.args.toList ds p:=b8;rw[Tryz.params10] at hA a6;generalize i.args=args at hA a6 b8 a9 ⊢;obtain⟨v0,d0,rfl,rfl,h0⟩:=trodAll_one hA;obtain⟨rfl,rfl⟩:=trodVars_none c8;have b0:=a6 0 29 v0 rfl rfl;obtain⟨a0,len,cap,rfl⟩:=okWide_slice qll b0;have c9:=h0;obtain⟨fuel,hf⟩:=h0;simp only[List.append_nil] at a9;have hlt:∀x∈p,x.block<W.heap.size:=λx hx=>by simpa using a9.lt x hx
 have hsp:∀a,a0=some a->a.spot=none/\∃cs e g,W.heap[a.block]?=some (.cells cs e g):=by
  rintro a rfl;have h:=b0;simp only[Value.okWide,qll,Cell.okWide,Cell.ok,World.has] at h;obtain⟨_,_,_,h1,row,cells,h2,_⟩:=h;refine⟨h1,?_⟩;unfold World.shape? at h2;split at h2
  ·rename_i c e g hc
   exact⟨c,e,g,hc⟩
  ·cases h2
 have key:(len:Int)<=9223372036854775807/\(0<len->∃lb lo,a0=some ⟨lb,lo,none⟩/\∀i,i<len->∃x,W.cell? ⟨lb,lo+i,none⟩=some (.int .i64 x)):=by
  rcases open_ints qll Tryz.underlying3 (show Tryz.prog.cellsOf 3=1 by kernel_rfl) hf with⟨hcs,hx⟩ | ⟨a,len',cap',zs,hcs,_,hl,hm,hz,hx,hcell,hwz⟩
  ·simp[Value.cells] at hcs;obtain⟨rfl,rfl,rfl⟩:=hcs;exact⟨by omega,λh=>by omega⟩
  ·simp[Value.cells] at hcs;obtain⟨rfl,rfl,rfl⟩:=hcs;simp only[if_true] at hz;refine⟨by simp only[qky] at hm;omega,λhp=>?_⟩;obtain⟨hs,-⟩:=hsp a rfl;obtain⟨lb,lo,sp⟩:=a;dsimp only at hs;subst hs;refine⟨lb,lo,rfl,λi hi=>⟨zs.getD i 0,?_⟩⟩;have h1:=hcell i (by omega);by_cases h0:i=0
   ·subst h0;simpa[Addr.add] using h1
   ·simpa[Addr.add,h0] using h1
 obtain⟨N,last,o,w',t',h1,h2,h3,h4⟩:=qaH (f:=10) (by decide) (by rfl) q1r (W:=W) (a0:=a0) (len:=len) (cap:=cap) (Post:=λv W'=>Rows.pileMendSpec.post enc qh3 qnd false true false false W #[.slice a0 len cap] v W') hsp key.1 key.2 a8 (λW' k1 k2 k3 k4=>by
  have hb:Below W.heap.size W { W' with tape:=W.tape }:=⟨k2,rfl,k3,k4,k1⟩;have ht:DataW.Trod enc qh3 W' 0 (λb=>decide (b<W.heap.size)) true 29 (.slice a0 len cap) d0 p:=(Below.trod Tryz.laidOut (by kernel_rfl) (of_decide_eq_true (by kernel_rfl)) c9 hb hlt).of_heap (by rfl);have hk:W.keptBut W' (λx=>x∈p/\(x∈([]:List MemPlace)\/x∈p\/x∈([]:List MemPlace))):=(hb.frame (λx=>x∈p/\(x∈([]:List MemPlace)\/x∈p\/x∈([]:List MemPlace))) :);exact⟨_,_,_,[],p,[],a9,trodAll_mk1 (shut_bool Tryz.underlying4 true),trodAll_mk1 ht,rfl,hk,λh=>by cases h⟩)
 exact⟨N,last,o,w',t',h1,h2,h3,h4.mono λv hp=>ChangeSpec.post_blind hp⟩
theorem q3b:(Rows.pileMendRow.inPlace == Tryz.prog.inPlace 10)=true:=by kernel_rfl
theorem q3a:(Rows.pileMendRow.unfollowed == Tryz.prog.unfollowed 10)=true:=by kernel_rfl
theorem q39:(Rows.pileMendRow.recurses == Tryz.prog.recurses 10)=true:=by kernel_rfl
theorem q38:(Rows.pileMendRow.named == Tryz.prog.varsNamed 10)=true:=by kernel_rfl
theorem q37:Rows.pileMendRow.wf (OpenSpec.ofChange Rows.pileMendSpec)=true:=by kernel_rfl
theorem Yu:joinedFacts qh3 10 qnd Rows.pileMendSpec Rows.pileMendRow=true:=by
 unfold joinedFacts;rw[q3b,q3a,q39,q38,q37,Tryz.laidOut,qf0,qd6,qd8,show(Rows.pileMendRow.plainKeys == Tryz.prog.plainKeys)=true from qf2,qd9,qg5,show(Rows.pileMendRow.lifted == Tryz.prog.liftsFinal)=true from qd7,show(Tryz.prog.make == some Rows.pileMendRow.make)=true from qf1];kernel_rfl
theorem pileMend_holds:Rows.PileMendSaid :=
 OpenClaim.holds_of_wide_leaving 10 qnd rfl rfl rfl rfl rfl rfl rfl ⟨rfl,rfl,rfl,rfl,rfl⟩ rfl rfl rfl rfl rfl (by kernel_rfl) qnC Yu
  (of_decide_eq_true (by kernel_rfl)) (by unfold Func.isWrapper;rw[if_neg (of_decide_eq_false (by kernel_rfl))];exact⟨rfl,rfl⟩)
  (λos a6 H enc _=>JF os a6 H enc)
#print axioms pileMend_holds
end
end Go.Proofs.YtidgnkmjgioapaaGreat
