/-
  gladstonelaw04.PileMost answers true for every list of numbers, and leaves its argument as it was. No conditions.
-/
import Derived.Test.YtidgnkmjgioapaaGreatJ5
set_option maxRecDepth 100000
set_option maxHeartbeats 8000000
set_option linter.all false
open Go renaming TypeId → q8u,Value → q58
open Go.Proofs.Tryz renaming prog → q8v
section
namespace Go.Proofs.YtidgnkmjgioapaaGreat
open Go Go.RowKit Go.Co Go.Sim Go.Conc Go.ConcN Go.ChangeShapes Go.WideShapes
theorem q16:NumLaw 7:=λD hok a6 _ _ _ _ hl hr h0 Z=>el7 D hok a6 (by kernel_rfl) (by kernel_rfl) hl hr h0 Z
theorem Jr(os:Os)(a6:os.Started)(H:Type)(enc:q8u × q58->H) :
  ReturnsInLeavingWide {} Tryz.checked os 7 .any (Rows.pileMostSpec.pre6 enc q8v Tryz.f7 [] false) (Rows.pileMostSpec.post enc q8v Tryz.f7 false true false false):=by
 refine returnsInLeavingWide_of_good (C:=Tryz.checked) Tryz.own a6 (ChangeSpec.witness6 (enc:=enc) (C:=Tryz.checked) (f:=7) (s:=Rows.pileMostSpec) (fn:=Tryz.f7) false ⟨#[],#[.slice none 0 0],[]⟩ 8 (by kernel_rfl) (by kernel_rfl) (by kernel_rfl) (by kernel_rfl)) ?_;intro w tape i _ b9 _ hok b0 _;obtain⟨_,_,_,c9,b6,_,_,_,hsz,Z⟩:=hok;have e:c9=Tryz.f7:=Option.some.inj (b6.symm.trans Tryz.func7);subst e;obtain⟨⟨ds,gs,b8,hw,hc⟩,hz⟩:=b0;have hW:=DataW.Whole.of_heap (w':=w.forCall tape i) (by rfl) hw;clear hw hc hz;have a7:=open0 b9;generalize d7:w.forCall tape i=W at hW Z a7 ⊢;have Z:∀(j:Nat) t v,Tryz.f7.params[j]?=some t->i.args[j]?=some v->Value.okWide q8v W .any w.heap.size t v:=Z;have a8:=hW;obtain⟨p,q,b7,c3,rfl,hfz,d6⟩:=hW;have hA:DataW.TrodAll enc q8v W 0 (λ_=>true) true Tryz.f7.params.toList i.args.toList ds p:=b7;rw[Tryz.params7] at hA Z;generalize i.args=args at hA Z b7 a8 ⊢;obtain⟨v0,d0,rfl,rfl,h0⟩:=trodAll_one hA;obtain⟨rfl,rfl⟩:=trodVars_none c3;have a9:=Z 0 29 v0 rfl rfl;obtain⟨a0,len,cap,rfl⟩:=okWide_slice Tryz.underlying29 a9;have c8:=h0;obtain⟨d5,hf⟩:=h0;simp only[List.append_nil] at a8;have hlt:∀x∈p,x.block<W.heap.size:=λx hx=>by simpa using a8.lt x hx
 have hsp:∀a,a0=some a->a.spot=none/\∃cs e g,W.heap[a.block]?=some (.cells cs e g):=by
  rintro a rfl;have h:=a9;simp only[Value.okWide,Tryz.underlying29,Cell.okWide,Cell.ok,World.has] at h;obtain⟨_,_,_,h1,row,cells,h2,_⟩:=h;refine⟨h1,?_⟩;unfold World.shape? at h2;split at h2
  ·rename_i c e g hc
   exact⟨c,e,g,hc⟩
  ·cases h2
 have key:(len:Int)<=9223372036854775807/\(0<len->∃lb lo,a0=some ⟨lb,lo,none⟩/\∀i,i<len->∃x,W.cell? ⟨lb,lo+i,none⟩=some (.int .i64 x)):=by
  rcases open_ints Tryz.underlying29 Tryz.underlying3 (show Tryz.prog.cellsOf 3=1 by kernel_rfl) hf with⟨hcs,hx⟩ | ⟨a,len',cap',zs,hcs,_,hl,hm,hz,hx,hcell,hwz⟩
  ·simp[Value.cells] at hcs
   obtain⟨rfl,rfl,rfl⟩:=hcs;exact⟨by omega,λh=>by omega⟩
  ·simp[Value.cells] at hcs
   obtain⟨rfl,rfl,rfl⟩:=hcs;simp only[if_true] at hz;refine⟨by simp only[maxLen] at hm;omega,λhp=>?_⟩;obtain⟨hs,-⟩:=hsp a rfl;obtain⟨lb,lo,sp⟩:=a;dsimp only at hs;subst hs;refine⟨lb,lo,rfl,λi hi=>⟨zs.getD i 0,?_⟩⟩;have h1:=hcell i (by omega);by_cases h0:i=0
   ·subst h0;simpa[Addr.add] using h1
   ·simpa[Addr.add,h0] using h1
 obtain⟨N,last,o,w',t',h1,h2,h3,h4⟩:=q9G (f:=7) (by decide) (by rfl) q16 (W:=W) (a0:=a0) (len:=len) (cap:=cap) (Post:=λv W'=>Rows.pileMostSpec.post enc q8v Tryz.f7 false true false false W #[.slice a0 len cap] v W') hsp key.1 key.2 a7 (λW' k1 k2 k3 k4=>by
  have hb:Below W.heap.size W { W' with tape:=W.tape }:=⟨k2,rfl,k3,k4,k1⟩
  have ht:DataW.Trod enc q8v W' 0 (λb=>decide (b<W.heap.size)) true 29 (.slice a0 len cap) d0 p:=(Below.trod Tryz.laidOut (by kernel_rfl) (of_decide_eq_true (by kernel_rfl)) c8 hb hlt).of_heap (by rfl);have hk:W.keptBut W' (λx=>x∈p/\(x∈([]:List MemPlace)\/x∈p\/x∈([]:List MemPlace))):=(hb.frame (λx=>x∈p/\(x∈([]:List MemPlace)\/x∈p\/x∈([]:List MemPlace))) :)
  exact⟨_,_,_,[],p,[],a8,trodAll_mk1 (shut_bool Tryz.underlying4 true),trodAll_mk1 ht,rfl,hk,λh=>by cases h⟩)
 exact⟨N,last,o,w',t',h1,h2,h3,h4.mono λv hp=>ChangeSpec.post_blind hp⟩
theorem q2y:(Rows.pileMostRow.inPlace == Tryz.prog.inPlace 7)=true:=by kernel_rfl
theorem q2x:(Rows.pileMostRow.unfollowed == Tryz.prog.unfollowed 7)=true:=by kernel_rfl
theorem q2w:(Rows.pileMostRow.recurses == Tryz.prog.recurses 7)=true:=by kernel_rfl
theorem q2v:(Rows.pileMostRow.named == Tryz.prog.varsNamed 7)=true:=by kernel_rfl
theorem q2u:Rows.pileMostRow.wf (OpenSpec.ofChange Rows.pileMostSpec)=true:=by kernel_rfl
theorem Yd:joinedFacts q8v 7 Tryz.f7 Rows.pileMostSpec Rows.pileMostRow=true:=by
 unfold joinedFacts;rw[q2y,q2x,q2w,q2v,q2u,Tryz.laidOut,g_maps,g_stops,g_knobs,show(Rows.pileMostRow.plainKeys == Tryz.prog.plainKeys)=true from g_keys,g_heard,g_may,show(Rows.pileMostRow.lifted == Tryz.prog.liftsFinal)=true from g_lifts,show(Tryz.prog.make == some Rows.pileMostRow.make)=true from g_make];kernel_rfl
theorem pileMost_holds:Rows.PileMostSaid :=
 OpenClaim.holds_of_wide_leaving 7 Tryz.f7 rfl rfl rfl rfl rfl rfl rfl ⟨rfl,rfl,rfl,rfl,rfl⟩ rfl rfl rfl rfl rfl (by kernel_rfl) Tryz.func7 Yd
  (of_decide_eq_true (by kernel_rfl)) (by unfold Func.isWrapper;rw[if_neg (of_decide_eq_false (by kernel_rfl))];exact⟨rfl,rfl⟩)
  (λos Z H enc _=>Jr os Z H enc)
#print axioms pileMost_holds
end Go.Proofs.YtidgnkmjgioapaaGreat
end
