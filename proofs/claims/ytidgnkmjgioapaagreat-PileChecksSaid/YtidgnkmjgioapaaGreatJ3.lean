/-
  Part 6 of the proof. gladstonelaw04.PileChecks answers true for every yard, parcel, pile, number and list of numbers, and leaves its arguments as they were. No conditions.
-/
import Derived.Test.YtidgnkmjgioapaaGreatJ2
import Derived.Test.YtidgnkmjgioapaaGreatRows
import Derived.Conc.LeavingOf
import Derived.Conc.HoldsTime
import Derived.ChangeSame
import Derived.ChangeVars
import Derived.JoinedOf
import Derived.RowKit
import Derived.RowKitTokens
import Derived.LaidHandle
import Derived.ProofKit
set_option maxRecDepth 100000
set_option maxHeartbeats 8000000
set_option linter.all false
open And renaming intro->qhb
open Array renaming getElem?_eq_some_iff->qgy,getElem?_map->qmG,range->qkB,replicate_succ->qhq,replicate_zero->qhr
open Classical renaming byContradiction->qhF
open Go renaming Addr->qi5,Calls->qhw,Value->qgB,World->qgx,bodyPost_ret->qj8,heap_alloc_new->qgF,info_parts->qjj,maxLen->qkq,results->qjb,wpList_append_own->qks
open Go.Conc renaming base->qhl,run_call_body->qm9
open Go.Frame renaming enter->qhD,finish_at->qjg
open Go.IntWalk renaming i64_in->qhp
open Go.Lib renaming hid->qgv
open Go.Proofs.Tryz renaming f8->qo8,func8->qoj,ntmps106->qq1,ntmps111->qmA,prog->qh5
open Go.RowKit renaming intOf->qi9
open Go.Value renaming oneCell'->qjk
open Go.World renaming cell?->qhs,grownBy_alloc->qgw,news_of_block->qiw,ownsRow_nil->qjh,size_alloc->qh6
open Go.World.grownBy renaming refl->qh1
open List renaming cons_append->qhe,drop_succ_cons->qhu,drop_zero->qia,find?_eq_none->qlk,getElem?_drop->qli,getElem?_eq_getElem->qgG,getElem?_eq_some_iff->qh9,getElem?_map->qj7,getElem?_take_of_lt->qiz,length_cons->qh3,length_map->qkw,length_nil->qhc,length_take->qjz,mem_map->ql7,mem_of_getElem?->qhg,mem_range->qjq,nil_append->qho,push_toArray->qhC,range->qht,size_toArray->qhn,take_add_one->qig,take_length->qis,take_of_length_le->qm1
open List.range renaming loop->qi4
open Nat renaming le_refl->qgA,reduceAdd->qhk,reduceSub->qii,zero_add->qhf,zero_le->qhx
open Option renaming getD_some->qgH
namespace Go.Proofs.YtidgnkmjgioapaaGreat
section
open Go.RowKit
def yF(ps:List Par):List (Int × Int):=ps.map λp=>(p.mn,p.mx)
theorem q1z(lo hi:Nat)(yv:qgB)(ps:List Par)(lim:Int)(w:qgx)(hY:q4G lo hi w yv ps lim)(hl:ps.length<=1000) :qhw Ya 89 #[yv] w λe w'=>∃v,e=.returned v/\w.grownBy w' none/\qE w.heap.size w'.heap.size w' v (yF ps):=by
 obtain⟨i0,c9,c8,c3,b9⟩:=qjj Tp.info26p;obtain⟨pv,rfl,hP⟩:=hY;obtain⟨yb,yc,rfl,d7,hc⟩:=hP.cell;obtain⟨A,w1,hA,a9,b6,b7⟩:=zr w (.cells #[.slice yb ps.length yc,lim] 24);have ⟨HW1,HA,HG1,HC⟩:=zY a9 hA b6 hc;have q0:=q8 b7 (o:=0) rfl;clear hP hc a9 hA b6 b7;go_enter Tp.x89,Tryz.ntmps89;go_upto_region 3 with(fail);rw[<- HA.out,<- HW1.out];go_wp2;go_loopw [3,4] (λov iv wr=>∃k:Nat,iv=.int .i64 k/\k<=ps.length/\w1.grownBy wr none/\wr.ownsRow w1.heap.size 26 2 ov k (ji ((yF ps).take k))) (λ_ iv _=>(ps.length - qi9 iv).toNat)
 case atStart=>exact⟨0,rfl,by omega,qh1 _ _,by simpa[ji] using qjh _ _ _ _⟩
 case round=>
  obtain⟨k,rfl,hk,hG,hO⟩:=hrel;obtain⟨oa,om,oc,rfl⟩:=zt hO;have ⟨HG,HO⟩:=qH hG hO;have d8:=hG.size;have d6:=hG.cl q0;by_cases hlt:k<ps.length
  ·obtain⟨YB,yo,rfl,-,-,-,h4⟩:=HC.out (by intro e;rw[e] at hlt;simp at hlt);obtain⟨p,hp,p0,p1,-,-⟩:=h4 k hlt;have a8:=HG1.out.trans hG;have x1:=a8.cl p0;have x2:=a8.cl p1;have HS:=qgv (show ji ((yF ps).take (k+1))=ji ((yF ps).take k)++[.int .i64 p.mn,.int .i64 p.mx] by
    have:(yF ps)[k]?=some (p.mn,p.mx):=by unfold yF;rw[qj7,hp];rfl
    rw[qig,this];exact Zr _ _)
   have d5:(k:Int)<(ps.length:Int):=by omega
   clear h4 hp p0 p1 a8 hG hO;go_wp2_with (at_builtin;(refine qks _ rfl _ _ 48 rfl w1.heap.size 26 i0 _ 2 16 Tp.und48 c9 c8 c3 b9 rfl (by decide) (.slice oa om oc) k _ rfl (HO.out.alloc _) ⟨wr.heap.size,0,none⟩ 1 1 [.int .i64 p.mn,.int .i64 p.mx] rfl rfl (qiw (cs:=#[p.mn,p.mx]) (t:=26) (fr:=(0,0)) (qgF wr _)) (by simp[qjk]) (by unfold qkq;omega) (by omega) (by simp;omega) ?_);intro v' w7 a6 a7 _;obtain⟨g',cap',rfl⟩:=ownsRow_succ a6;have HO7:=qgv a6;have HG7:=qgv a7;clear a6 a7);go_roundw
   case rel=>
    refine⟨k+1,by simp,by omega,(HG.out.trans (qgw _ _ none)).andThen HG7.out (λj e=>.inl (HO.out.lt j e).1),?_⟩;rw[HS.out];exact HO7.out
   case measure=>simp[qi9];omega
  ·obtain rfl:k=ps.length:=by omega
   have b0:(yF ps).length=ps.length:=by simp[yF]
   have b8:=qgv b0;clear hG hO b0;go_wp2;go_ret;have h0:=HO.out;rw[show(yF ps).take ps.length=yF ps from qm1 (by rw[b8.out];exact qgA _)] at h0;exact⟨_,rfl,HG1.out.trans HG.out,(qE.own h0 (by rw[b8.out];omega)).mono HG1.out.size (qgA _)⟩
theorem q1D:∀(t:List Int),(∀x∈t,0<=x/\x<=1000)->0<=tot t/\tot t<=1000*t.length
 | [],_=>by simp[tot]
 | a::t,h=>by
  have h1:=q1D t λx hx=>h x (by simp[hx]);have h2:=h a (by simp);simp only[tot,qh3];omega
theorem q8l(la ha lb hb:Nat)(lv bv:qgB)(l:List Int)(bs:List (Int × Int))(gm gx:Nat->Int)(p:Nat)(w:qgx)(hI:zw la ha w lv l)(hB:qE lb hb w bv bs)(hg:∀x∈l,0<=x/\bs[x.toNat]?=some (gm x.toNat,gx x.toNat))(d5:∀i,0<=gm i/\gm i<=1000)(c9:∀i,0<=gx i/\gx i<=1000)(hl:l.length<=1000)(hp:p<l.length) :qhw Ya 105 #[lv,bv,p] w λe w'=>e=.returned (.agg #[(loadAt gm l p),(loadAt gx l p)])/\w.grownBy w' none:=by
 obtain⟨b1,c1,rfl,-,h1⟩:=hI.cell;obtain⟨b2,c2,rfl,k9,h2⟩:=hB.cell;obtain⟨A,w1,hA,a9,d8,e4,d9,-⟩:=zp w (.cells #[.int .i64 0,.int .i64 0] 26) (.cells #[.int .i64 0,.int .i64 0] 26);have ⟨HW,HA,HG1,HB1,HB2,H1,H2,HGG⟩:=qbe a9 hA d8 e4 d9 h1 h2 hg;have ⟨HBM,HBX⟩:=qH d5 c9;have k5:IntKind.i64.wrap ((p:Int)+1)=(p:Int)+1:=qhp _ (by omega);clear hI hB h1 h2 a9 hA d8 e4 d9 hg d5 c9;obtain⟨dr,b6⟩:∃dr,dr=l.drop (p+1):=⟨_,rfl⟩;have b7:=qgv b6;have c8:dr.length=l.length - (p+1):=by rw[b6];simp
 have l4:=qgv c8;have g6:dr.length+(p+1)<=l.length:=by omega
 have g5:l.length<=dr.length+(p+1):=by omega
 clear b6 c8;go_enter Tp.x105,Tryz.ntmps105;go_upto_region 3 with(fail);rw[<- HA.out,<- HW.out];go_wp2;go_loopw [8] (λiv wr=>∃k:Nat,iv=.int .i64 ((p:Int)+1+k)/\k<=dr.length/\w.grownBy wr none/\wr.heap[A]?=some (.cells #[.int .i64 0,.int .i64 0] 26 (0,0))/\wr.heap[A+1]?=some (.cells #[.int .i64 (tot ((dr.take k).map λx=>gm x.toNat)),.int .i64 (tot ((dr.take k).map λx=>gx x.toNat))] 26 (0,0))) (λiv _=>(l.length - qi9 iv).toNat)
 case atStart=>exact⟨0,by simp,by omega,HG1.out,HB1.out,by simpa[tot] using HB2.out⟩
 case round=>
  obtain⟨k,rfl,hk,hG,a7,a6⟩:=hrel;have ⟨HG,HBA,HBB⟩:=z8 hG a7 a6;by_cases hlt:k<dr.length
  ·obtain⟨x,hx⟩:∃x,dr[k]?=some x:=⟨_,qgG hlt⟩;have hxl:l[p+1+k]?=some x:=by rw[<- hx,b7.out,qli]
   obtain⟨h9,a8⟩:=HGG.out x (qhg hxl);obtain⟨m,rfl⟩:∃m:Nat,x=m:=⟨x.toNat,by omega⟩;simp only[Int.toNat_natCast] at a8;have b0:=(qh9.1 a8).1;obtain⟨B,o,rfl,-,-,-,h4⟩:=H1.out (by intro e;rw[e] at hp;simp at hp);have d0:=hG.cl (h4 (p+1+k) (by omega));rw[hxl] at d0;simp only[qgH] at d0;obtain⟨C,o2,rfl,-,-,-,h5⟩:=H2.out (by intro e;rw[e] at b0;simp at b0);obtain⟨q,hq,b9,b8⟩:=h5 m b0;rw[a8] at hq;cases hq;have y1:=hG.cl b9;have y2:=hG.cl b8;have d7:=q1D ((dr.take k).map λx=>gm x.toNat) (by simp only[ql7];rintro z ⟨y,-,rfl⟩;exact HBM.out _);have d6:=q1D ((dr.take k).map λx=>gx x.toNat) (by simp only[ql7];rintro z ⟨y,-,rfl⟩;exact HBX.out _);simp only[qkw,qjz] at d7 d6;have e7:=HBM.out m;have e6:=HBX.out m;have HS1:=qgv (show tot ((dr.take (k+1)).map λx=>gm x.toNat)=tot ((dr.take k).map λx=>gm x.toNat)+gm m by rw[qig,hx];simp[q3a]);have HS2:=qgv (show tot ((dr.take (k+1)).map λx=>gx x.toNat)=tot ((dr.take k).map λx=>gx x.toNat)+gx m by rw[qig,hx];simp[q3a]);generalize tot ((dr.take k).map λx=>gm x.toNat)=T1 at a6 HBB d7 HS1;generalize tot ((dr.take k).map λx=>gx x.toNat)=T2 at a6 HBB d6 HS2;generalize gm m=m1 at y1 e7 HS1;generalize gx m=m2 at y2 e6 HS2;have a9:IntKind.i64.wrap (T1+m1)=T1+m1:=qhp _ (by omega);have k0:IntKind.i64.wrap (T2+m2)=T2+m2:=qhp _ (by omega);have e8:(p:Int)+1+(k:Int)<(l.length:Int):=by omega
   have k8:(0:Int)<=(p:Int)+1+(k:Int):=by omega
   have k7:((p:Int)+1+(k:Int)).toNat=p+1+k:=by omega
   have k6:(m:Int)<(bs.length:Int):=by omega
   have z0:=q8 a6 (o:=0) rfl;have z1:=q8 a6 (o:=1) rfl;have t0:=qm a6 (o:=0);have t1:=qm a6 (o:=1);clear hG a7 a6 h4 h5 hx hxl a8 b9 b8;go_upto_region 5 with(fail);go_still_tail 23,(by kernel_rfl);change wpList _ _ _ _ _ wr.drew;have g8:wr.drew.cell? (A+1:Nat)=_:=z0;have g7:wr.drew.cell? ⟨A+1,1,none⟩=_:=z1;have h8:wr.drew.frozen? ⟨A+1,0,none⟩=false:=t0;have g9:wr.drew.frozen? ⟨A+1,1,none⟩=false:=t1;go_wp2;go_roundw
   case rel=>
    have c3:=((qe wr.drew (A+1) 0 (.int .i64 (T1+m1))).trans (qe _ (A+1) 1 (.int .i64 (T2+m2))));refine⟨k+1,by simp;omega,by omega,(HG.out.trans (qc wr none)).andThen c3 (by rintro j e;cases e;exact .inl (by have:=HA.out;omega)),bk c3 (show wr.drew.heap[A]?=_ from HBA.out),?_⟩;rw[HS1.out,HS2.out];exact qg (o:=1) (v:=.int .i64 (T2+m2)) (qg (o:=0) (v:=.int .i64 (T1+m1)) (show wr.drew.heap[A+1]?=_ from HBB.out))
   case measure=>simp[qi9];omega
  ·obtain rfl:k=dr.length:=by omega
   rw[qis] at a6 HBB;have HE1:=qgv (show tot (dr.map λx=>gm x.toNat)=loadAt gm l p by rw[b7.out];rfl);have e5:=qgv (show tot (dr.map λx=>gx x.toNat)=loadAt gx l p by rw[b7.out];rfl);generalize tot (dr.map λx=>gm x.toNat)=T1 at a6 HBB HE1;generalize tot (dr.map λx=>gx x.toNat)=T2 at a6 HBB e5;have e8:¬ (p:Int)+1+(dr.length:Int)<(l.length:Int):=by omega
   have z0:=q8 a6 (o:=0) rfl;have z1:=q8 a6 (o:=1) rfl;have y0:=q8 a7 (o:=0) rfl;have y1:=q8 a7 (o:=1) rfl;have t0:=qm a7 (o:=0);have t1:=qm a7 (o:=1);clear hG a7 a6;go_wp2;have hz:=qg (o:=1) (v:=.int .i64 T2) (qg (o:=0) (v:=.int .i64 T1) HBA.out);have e9:=HG.out.andThen (row':=some A) ((qe wr A 0 (.int .i64 T1)).trans (qe _ A 1 (.int .i64 T2))) (by rintro j e;cases e;exact .inl (by have:=HA.out;omega));exact qj8 (v:=.agg #[T1,T2]) (by simp[qjb,Tryz.results105,go_sem,qhs,hz]) rfl ⟨by rw[HE1.out,e5.out],e9⟩
theorem yP(x lo hi:Int)(w:qgx)(h1:lo<=x)(h2:x<=hi) :qhw Ya 106 #[x,lo,hi] w λe w'=>e=.returned (.bool true)/\w=w':=by
 go_enter Tp.x106,qq1;go_wp2;go_ret;exact⟨rfl,rfl⟩
theorem yQ(x lo hi:Int)(w:qgx)(h1:¬ (lo<=x/\x<=hi)) :qhw Ya 106 #[x,lo,hi] w λe w'=>e=.returned (.bool false)/\w=w':=by
 by_cases h2:lo<=x
 ·have h3:¬ x<=hi:=λh=>h1 ⟨h2,h⟩;clear h1;go_enter Tp.x106,qq1;go_wp2;go_ret;exact⟨rfl,rfl⟩
 ·clear h1;go_enter Tp.x106,qq1;go_wp2;go_ret;exact⟨rfl,rfl⟩
theorem q0d(a b c d:Int)(w:qgx)(h1:¬ (1<=a/\a<=12)) :qhw Ya 111 #[.agg #[a,b,c,d]] w λe w'=>e=.returned (.int .i64 1)/\w.grownBy w' none:=by
 have HH:=qgv h1;clear h1;go_enter Tp.x111,qmA;go_wp2_with (first
  | (go_at_call 106;refine(yP _ _ _ _ (by have:=HH.out;omega) (by have:=HH.out;omega)).mono ?_;rintro e w' ⟨rfl,rfl⟩)
  | (go_at_call 106;(refine(yQ _ _ _ _ (by have:=HH.out;omega)).mono ?_);rintro e w' ⟨rfl,rfl⟩))
 go_ret;exact⟨rfl,qgw _ _ _⟩
theorem q0c(a b c d:Int)(w:qgx)(h1:1<=a/\a<=12)(h2:¬ (1<=b/\b<=12)) :qhw Ya 111 #[.agg #[a,b,c,d]] w λe w'=>e=.returned (.int .i64 1)/\w.grownBy w' none:=by
 have HH:=qgv (qhb h1 h2);clear h1 h2;go_enter Tp.x111,qmA;go_wp2_with (first
  | (go_at_call 106;refine(yP _ _ _ _ (by have:=HH.out;omega) (by have:=HH.out;omega)).mono ?_;rintro e w' ⟨rfl,rfl⟩)
  | (go_at_call 106;(refine(yQ _ _ _ _ (by have:=HH.out;omega)).mono ?_);rintro e w' ⟨rfl,rfl⟩))
 go_ret;exact⟨rfl,qgw _ _ _⟩
theorem q0b(a b c d:Int)(w:qgx)(h1:1<=a/\a<=12)(h2:1<=b/\b<=12)(h3:b<a) :qhw Ya 111 #[.agg #[a,b,c,d]] w λe w'=>e=.returned (.int .i64 5)/\w.grownBy w' none:=by
 have HH:=qgv (qhb h1 (qhb h2 h3));clear h1 h2;go_enter Tp.x111,qmA;go_wp2_with (first
  | (go_at_call 106;refine(yP _ _ _ _ (by have:=HH.out;omega) (by have:=HH.out;omega)).mono ?_;rintro e w' ⟨rfl,rfl⟩)
  | (go_at_call 106;(refine(yQ _ _ _ _ (by have:=HH.out;omega)).mono ?_);rintro e w' ⟨rfl,rfl⟩))
 go_ret;exact⟨rfl,qgw _ _ _⟩
theorem q0a(a b c d:Int)(w:qgx)(h1:1<=a/\a<=12)(h2:1<=b/\b<=12)(h3:¬ b<a)(h4:¬ (0<=c/\c<=30)) :qhw Ya 111 #[.agg #[a,b,c,d]] w λe w'=>e=.returned (.int .i64 1)/\w.grownBy w' none:=by
 have HH:=qgv (qhb h1 (qhb h2 (qhb h3 h4)));clear h1 h2 h4;go_enter Tp.x111,qmA;go_wp2_with (first
  | (go_at_call 106;refine(yP _ _ _ _ (by have:=HH.out;omega) (by have:=HH.out;omega)).mono ?_;rintro e w' ⟨rfl,rfl⟩)
  | (go_at_call 106;(refine(yQ _ _ _ _ (by have:=HH.out;omega)).mono ?_);rintro e w' ⟨rfl,rfl⟩))
 go_ret;exact⟨rfl,qgw _ _ _⟩
theorem q09(a b c d:Int)(w:qgx)(h1:1<=a/\a<=12)(h2:1<=b/\b<=12)(h3:¬ b<a)(h4:0<=c/\c<=30)(h5:¬ (1<=d/\d<=3)) :qhw Ya 111 #[.agg #[a,b,c,d]] w λe w'=>e=.returned (.int .i64 1)/\w.grownBy w' none:=by
 have HH:=qgv (qhb h1 (qhb h2 (qhb h3 (qhb h4 h5))));clear h1 h2 h4 h5;go_enter Tp.x111,qmA;go_wp2_with (first
  | (go_at_call 106;refine(yP _ _ _ _ (by have:=HH.out;omega) (by have:=HH.out;omega)).mono ?_;rintro e w' ⟨rfl,rfl⟩)
  | (go_at_call 106;(refine(yQ _ _ _ _ (by have:=HH.out;omega)).mono ?_);rintro e w' ⟨rfl,rfl⟩))
 go_ret;exact⟨rfl,qgw _ _ _⟩
theorem q08(a b c d:Int)(w:qgx)(h1:1<=a/\a<=12)(h2:1<=b/\b<=12)(h3:¬ b<a)(h4:0<=c/\c<=30)(h5:1<=d/\d<=3) :qhw Ya 111 #[.agg #[a,b,c,d]] w λe w'=>e=.returned (.int .i64 0)/\w.grownBy w' none:=by
 have HH:=qgv (qhb h1 (qhb h2 (qhb h3 (qhb h4 h5))));clear h1 h2 h4 h5;go_enter Tp.x111,qmA;go_wp2_with (first
  | (go_at_call 106;refine(yP _ _ _ _ (by have:=HH.out;omega) (by have:=HH.out;omega)).mono ?_;rintro e w' ⟨rfl,rfl⟩)
  | (go_at_call 106;(refine(yQ _ _ _ _ (by have:=HH.out;omega)).mono ?_);rintro e w' ⟨rfl,rfl⟩))
 go_ret;exact⟨rfl,qgw _ _ _⟩
theorem vU(p:Par)(w:qgx):qhw Ya 111 #[.agg #[p.mn,p.mx,p.bears,p.tall]] w λe w'=>e=.returned (.int .i64 (xK p))/\w.grownBy w' none:=by
 unfold xK;by_cases h1:1<=p.mn/\p.mn<=12
 ·by_cases h2:1<=p.mx/\p.mx<=12
  ·by_cases h3:p.mx<p.mn
   ·rw[if_pos h1,if_pos h2,if_pos h3];exact q0b _ _ _ _ w h1 h2 h3
   ·by_cases h4:0<=p.bears/\p.bears<=30
    ·by_cases h5:1<=p.tall/\p.tall<=3
     ·rw[if_pos h1,if_pos h2,if_neg h3,if_pos h4,if_pos h5];exact q08 _ _ _ _ w h1 h2 h3 h4 h5
     ·rw[if_pos h1,if_pos h2,if_neg h3,if_pos h4,if_neg h5];exact q09 _ _ _ _ w h1 h2 h3 h4 h5
    ·rw[if_pos h1,if_pos h2,if_neg h3,if_neg h4];exact q0a _ _ _ _ w h1 h2 h3 h4
  ·rw[if_pos h1,if_neg h2];exact q0c _ _ _ _ w h1 h2
 ·rw[if_neg h1];exact q0d _ _ _ _ w h1
theorem Zq(lo hi:Nat)(yv:qgB)(ps:List Par)(lim:Int)(w:qgx)(hY:q4G lo hi w yv ps lim)(hhi:hi<=w.heap.size) :qhw Ya 53 #[yv] w λe w'=>e=.returned (.int .i64 (jz ps lim))/\w.grownBy w' none:=by
 obtain⟨qv,rfl,hP⟩:=hY;obtain⟨yb,yc,rfl,c9,-⟩:=hP.cell;by_cases h5:5<ps.length
 ·have HR:=qgv (show jz ps lim=6 by unfold jz;rw[if_pos h5]);have b8:(5:Int)<ps.length:=by omega
  clear hP;go_enter Tp.x53,Tryz.ntmps53;go_wp2;go_ret;exact⟨by rw[HR.out];rfl,qgw _ _ _⟩
 ·obtain⟨A,w1,hA,b0,a8,a9⟩:=zr w (.cells #[.slice yb ps.length yc,lim] 24);have b9:=qgv (hP.kept a8);have ⟨HW1,HA,HG1⟩:=z8 b0 hA a8;have q0:=q8 a9 (o:=0) rfl;have q1:=q8 a9 (o:=1) rfl;have b8:¬ (5:Int)<ps.length:=by omega
  clear hP b0 hA a8 a9;go_enter Tp.x53,Tryz.ntmps53;go_upto_region 1 with(fail);rw[<- HA.out,<- HW1.out];go_wp2;go_loopw [3] (λiv wr=>∃k:Nat,iv=.int .i64 k/\k<=ps.length/\(∀i p,i<k->ps[i]?=some p->xK p=0)/\w1.grownBy wr none) (λiv _=>(ps.length - qi9 iv).toNat)
  case atStart=>exact⟨0,rfl,by omega,λi p hi=>absurd hi (by omega),qh1 _ _⟩
  case round=>
   obtain⟨k,rfl,hk,hok,hG⟩:=hrel;have ⟨HOK,HG⟩:=qH hok hG;have b7:=b9.out.kept hG;have c8:=hG.cl q0;have c3:=hG.cl q1;clear hok hG;by_cases hlt:k<ps.length
   ·obtain⟨b2,c2,he,-,hc⟩:=b7.cell;cases he;obtain⟨YB,yo,rfl,d7,d6,d5,b6⟩:=hc (by intro e;rw[e] at hlt;simp at hlt);obtain⟨p,hp,p0,p1,p2,p3⟩:=b6 k (by omega);have HPP:=qgv hp;clear hc b6 hp b7;by_cases hz:xK p=0
    ·go_wp2_with (go_at_call 111;refine(vU p _).mono ?_;rintro e w3 ⟨rfl,a6⟩;rw[hz];have HG3:=qgv a6;clear a6);go_roundw
     case rel=>
      refine⟨k+1,by simp,by omega,λi q hi hq=>?_,HG.out.trans HG3.out⟩;by_cases e:i=k
      ·subst e;rw[HPP.out] at hq;cases hq;exact hz
      ·exact HOK.out i q (by omega) hq
     case measure=>simp[qi9];omega
    ·have HR:=qgv (show jz ps lim=xK p by
      unfold jz;rw[if_neg h5,Ym _ ps k p HPP.out (by simp[hz]) (λi y hi hy=>by simp[HOK.out i y hi hy])])
     obtain⟨z,a7⟩:∃z,xK p=z:=⟨_,rfl⟩;rw[a7] at hz HR;have HZ:=qgv a7;clear a7;go_wp2_with (go_at_call 111;refine(vU p _).mono ?_;rintro e w3 ⟨rfl,a6⟩;rw[HZ.out];have HG3:=qgv a6;clear a6);go_ret;exact⟨by rw[HR.out];rfl,(HG1.out.trans HG.out).trans HG3.out⟩
   ·obtain rfl:k=ps.length:=by omega
    by_cases hl:1<=lim/\lim<=12
    ·have HR:=qgv (show jz ps lim=0 by
      unfold jz;rw[if_neg h5,QD _ ps (λi y hy=>by simp[HOK.out i y (qh9.1 hy).1 hy])];exact if_pos hl)
     go_wp2_with (go_at_call 106;refine(yP _ _ _ _ hl.1 hl.2).mono ?_;rintro e w' ⟨rfl,rfl⟩);go_ret;exact⟨by rw[HR.out];rfl,HG1.out.trans HG.out⟩
    ·have HR:=qgv (show jz ps lim=1 by
      unfold jz;rw[if_neg h5,QD _ ps (λi y hy=>by simp[HOK.out i y (qh9.1 hy).1 hy])];exact if_neg hl)
     have HL:=qgv hl;clear hl;go_wp2_with (go_at_call 106;refine(yQ _ _ _ _ HL.out).mono ?_;rintro e w' ⟨rfl,rfl⟩);go_ret;exact⟨by rw[HR.out];rfl,HG1.out.trans HG.out⟩
theorem q4e(lo hi:Nat)(v:qgB)(l:List Int)(x:Int)(w:qgx)(hI:zw lo hi w v l) :qhw Ya 107 #[v,x] w λe w'=>e=.returned (.bool (decide (x∈l)))/\w=w':=by
 obtain⟨b,c,rfl,a6,hc⟩:=hI.cell;have HC:=qgv hc;clear hc hI;go_enter Tp.x107,Tryz.ntmps107;go_wp2;go_loopw [5] (λiv wr=>∃k:Nat,iv=.int .i64 k/\k<=l.length/\x∉l.take k/\wr=w) (λiv _=>(l.length - qi9 iv).toNat)
 case atStart=>exact⟨0,rfl,by omega,by simp,rfl⟩
 case round=>
  obtain⟨k,rfl,hk,hn,rfl⟩:=hrel;have HN:=qgv hn;clear hn;by_cases hlt:k<l.length
  ·obtain⟨B,o,rfl,-,-,-,h4⟩:=HC.out (by intro e;rw[e] at hlt;simp at hlt);have d0:=h4 k hlt;obtain⟨y,hy⟩:∃y,l[k]?=some y:=⟨_,qgG hlt⟩;rw[hy] at d0;simp only[qgH] at d0;have a7:(k:Int)<(l.length:Int):=by omega
   have HY:=qgv hy;clear h4 hy;by_cases e:y=x
   ·subst e;have HM:=qgv (show decide (y∈l)=true from decide_eq_true (qhg HY.out));go_wp2;go_ret;exact⟨by rw[HM.out];rfl,by first | rfl | trivial⟩
   ·have e2:(y == x)=false:=by rw[beq_eq_false_iff_ne];exact e
    have HE:=qgv e;clear e;go_wp2;go_roundw
    case rel=>exact⟨k+1,by simp,by omega,by rw[qig,HY.out];simp[HN.out,Ne.symm HE.out],by first | rfl | trivial⟩
    case measure=>simp[qi9];omega
  ·obtain rfl:k=l.length:=by omega
   rw[qis] at HN;have HM:=qgv (show decide (x∈l)=false from decide_eq_false HN.out);go_wp2;go_ret;exact⟨by rw[HM.out];rfl,by first | rfl | trivial⟩
theorem Yv(ps:List Par)(ht:∀p∈ps,0<=p.tall/\p.tall<=1000):∀(l:List Int) (k:Nat),k<=l.length->0<=qK ps (l.take k)/\qK ps (l.take k)<=1000*k
 | l,0,_=>by simp[qK]
 | l,k+1,hk=>by
  have ih:=Yv ps ht l k (by omega);rw[vY ps l k _ (qgG (show k<l.length by omega))];have h2:0<=jr ps l[k]/\jr ps l[k]<=1000:=by
   unfold jr;split
   ·rename_i p hp
    exact ht p (qhg hp)
   ·omega
  omega
theorem q7w(lo hi:Nat)(pv qv:qgB)(ps:List Par)(lim:Int)(l:List Int)(w:qgx)(hP:zA lo hi w pv ps)(hI:zw lo hi w qv l)(hx:∀x∈l,0<=x/\x<ps.length)(ht:∀p∈ps,0<=p.tall/\p.tall<=1000)(hl:l.length<=1000) :qhw Ya 108 #[.agg #[pv,lim],qv] w λe w'=>e=.returned (.int .i64 (qK ps l))/\w.grownBy w' none:=by
 obtain⟨yb,yc,rfl,d7,-⟩:=hP.cell;obtain⟨base,cap,rfl,e5,-⟩:=hI.cell;obtain⟨A,w1,hA,b6,a8,b9⟩:=zr w (.cells #[.slice yb ps.length yc,lim] 24);have c9:=qgv (hP.kept a8);have d5:=qgv (hI.kept a8);have ⟨HW1,HA,HG1,HX⟩:=zY b6 hA a8 hx;have c3:=qgv (Yv ps ht l);have q0:=q8 b9 (o:=0) rfl;clear hP hI b6 hA a8 b9 hx ht;go_enter Tp.x108,Tryz.ntmps108;go_upto_region 3 with(fail);rw[<- HA.out,<- HW1.out];go_wp2;go_loopw [5,6] (λtv iv wr=>∃k:Nat,iv=.int .i64 k/\k<=l.length/\tv=.int .i64 (qK ps (l.take k))/\w1.grownBy wr none) (λ_ iv _=>(l.length - qi9 iv).toNat)
 case atStart=>exact⟨0,rfl,by omega,by simp[qK],qh1 _ _⟩
 case round=>
  obtain⟨k,rfl,hk,rfl,hG⟩:=hrel;have HG:=qgv hG;by_cases hlt:k<l.length
  ·obtain⟨b1,c1,he,-,hc⟩:=(d5.out.kept hG).cell;cases he;obtain⟨B,o,rfl,-,-,-,h4⟩:=hc (by intro e;rw[e] at hlt;simp at hlt);have d0:=h4 k hlt;obtain⟨x,a7⟩:∃x,l[k]?=some x:=⟨_,qgG hlt⟩;obtain⟨d8,b0⟩:=HX.out x (qhg a7);rw[a7] at d0;simp only[qgH] at d0;have a6:=vY ps l k x a7;have c8:=c3.out k hk;obtain⟨m,rfl⟩:∃m:Nat,x=m:=⟨x.toNat,by omega⟩;obtain⟨b2,c2,he,-,b7⟩:=(c9.out.kept hG).cell;cases he;obtain⟨YB,yo,rfl,-,-,-,b8⟩:=b7 (by intro e;rw[e] at b0;simp at b0;omega);obtain⟨p,hp,p0,p1,p2,p3⟩:=b8 m (by omega);rw[show jr ps m=p.tall by unfold jr;simp[hp]] at a6;have a9:=c3.out (k+1) hlt;rw[a6] at a9;have d6:=hG.cl q0;have e4:(m:Int)<(ps.length:Int):=b0;have e6:(k:Int)<(l.length:Int):=by omega
   generalize qK ps (l.take k)=T at c8 a6 a9 ⊢;have d9:IntKind.i64.wrap (T+p.tall)=T+p.tall:=qhp _ (by omega);have HTS:=qgv a6;clear hG hc h4 b7 b8 hp a7 a6;go_upto_region 5 with(fail);go_quiet (fail);go_wp2;go_roundw
   case rel=>exact⟨k+1,by simp,by omega,by rw[HTS.out],HG.out.trans (qi _ _ none)⟩
   case measure=>simp[qi9];omega
  ·obtain rfl:k=l.length:=by omega
   rw[qis];clear hG;go_wp2;go_ret;exact⟨rfl,HG1.out.trans HG.out⟩
theorem Qo(pv qv:qgB)(ps:List Par)(lim:Int)(l:List Int)(w:qgx)(hP:zA 0 w.heap.size w pv ps)(hI:zw 0 w.heap.size w qv l)(hlen:l.length<=1000)(b8:∀b n c,qv=.slice b n c->n<=c) :qhw Ya 50 #[.agg #[pv,lim],qv] w λe w'=>e=.returned (.int .i64 (kP ps lim l))/\w.grownBy w' none:=by
 obtain⟨yb,yc,rfl,h9,-⟩:=hP.cell;obtain⟨base,cap,rfl,k5,-⟩:=hI.cell;have k9:=b8 _ _ _ rfl;clear b8;obtain⟨A,w1,hA,d8,a7,c9⟩:=zr w (.cells #[.slice yb ps.length yc,lim] 24);have d6:=qgv ((hP.kept a7).mono (qgA _) a7.size);have e6:=qgv ((hI.kept a7).mono (qgA _) a7.size);have ⟨HW1,HA,HG1⟩:=z8 d8 hA a7;have q0:=q8 c9 (o:=0) rfl;have q1:=q8 c9 (o:=1) rfl;clear hP hI d8 hA a7 c9;by_cases hc:jz ps lim=0;rotate_left
 ·have b0:=qgv (show kP ps lim l=jz ps lim from if_neg hc);obtain⟨c,c8⟩:∃c,c=jz ps lim:=⟨_,rfl⟩;rw[<- c8] at hc;have e8:=qgv c8;have hc0:(c == 0)=false:=by rw[beq_eq_false_iff_ne];exact hc
  clear c8 hc;go_enter Tp.x50,Tryz.ntmps50;go_upto_region 1 with(fail);rw[<- HA.out,<- HW1.out];go_wp2_with (go_at_call 53;refine(Zq 0 _ _ ps lim w1 ⟨_,rfl,d6.out⟩ (qgA _)).mono ?_;rintro e w2 ⟨rfl,a9⟩;rw[<- e8.out];have HG2:=qgv a9;clear a9);go_ret;exact⟨by rw[b0.out,<- e8.out];rfl,HG1.out.trans HG2.out⟩
 have b0:=qgv (show kP ps lim l=QJ ps lim l from if_pos hc);have HOK:=qgv (q53 hc);have HC:=qgv hc;clear hc;go_enter Tp.x50,Tryz.ntmps50;go_upto_region 1 with(fail);rw[<- HA.out,<- HW1.out];go_upto_region 4 with(go_at_call 53;refine(Zq 0 _ _ ps lim w1 ⟨_,rfl,d6.out⟩ (qgA _)).mono ?_;rintro e w2 ⟨rfl,a9⟩;rw[HC.out];have HG2:=qgv a9;clear a9);go_wp2;go_loopw [6] (λiv wr=>∃k:Nat,iv=.int .i64 k/\k<=l.length/\(∀j,j<k->jB ps l j=0)/\w1.grownBy wr none) (λiv _=>(l.length - qi9 iv).toNat)
 case atStart=>exact⟨0,rfl,by omega,λj hj=>by omega,HG2.out⟩
 case round=>
  obtain⟨k,rfl,hk,e4,hG⟩:=hrel;have ⟨HG,HBD⟩:=qH hG e4;have b7:=hG.cl q0;have b6:=hG.cl q1;clear e4;by_cases hlt:k<l.length
  ·have HIK:=qgv (e6.out.kept hG);obtain⟨b1,c1,he,-,hcc⟩:=HIK.out.cell;cases he;obtain⟨B,o,rfl,-,-,-,h4⟩:=hcc (by intro e;rw[e] at hlt;simp at hlt);have d0:=h4 k hlt;obtain⟨x,b9⟩:∃x,l[k]?=some x:=⟨_,qgG hlt⟩;rw[b9] at d0;simp only[qgH] at d0;have k6:(k:Int)<(l.length:Int):=by omega
   have k0:IntKind.i64.wrap ((ps.length:Int) - 1)=(ps.length:Int) - 1:=qhp _ (by omega);have k8:(0:Int)<=(k:Int):=by omega
   have k7:(k:Int)<=(cap:Int):=by omega
   have HXE:=qgv b9;clear hG h4 hcc b9;go_upto_region 7 with(fail);go_still_tail 8,(by kernel_rfl);change wpList _ _ _ _ _ wr.drew;by_cases hin:0<=x/\x<ps.length;rotate_left
   ·have HE:=qgv (show QJ ps lim l=3 from ZY HBD.out hlt (by unfold jB;rw[HXE.out];simp only[if_neg hin]) (by decide));have g9:=qgv (show ¬ (0<=x/\x<=(ps.length:Int) - 1) from λh=>hin ⟨h.1,by omega⟩);clear hin;go_wp2_with (go_at_call 106;refine(yQ _ _ _ _ g9.out).mono ?_;rintro e w' ⟨rfl,rfl⟩);go_ret;exact⟨by rw[b0.out,HE.out];rfl,(HG1.out.trans HG.out).trans (qc _ _)⟩
   obtain⟨g5,e9⟩:=hin;have d9:jB ps l k=if x∈l.take k then 4 else 0:=by unfold jB;rw[HXE.out];simp only[if_pos (qhb g5 e9)]
   have HBT:=qgv d9;clear d9;have g7:wr.drew.cell? ⟨B,o+k,none⟩=some (.int .i64 x):=d0;go_upto_region 9 with(go_at_call 106;refine(yP _ _ _ _ (by omega) (by omega)).mono ?_;rintro e w' ⟨rfl,rfl⟩);refine yU (λu=>w1.grownBy u none/\u.cell? ⟨B,o+k,none⟩=some (.int .i64 x)/\zw 0 w1.heap.size u (.slice (some ⟨B,o,none⟩) l.length cap) l) ⟨HG.out.trans (qc _ _),d0,HIK.out.kept (qc _ none)⟩ (λu hF=>?_);obtain⟨gu,du,iu⟩:=hF;have e7:=qgv gu;have e5:=qgv ((iu.take k hk cap).kept (qc _ none));clear d0 g7 gu iu b7 b6;go_still_tail 7,(by kernel_rfl);change wpList _ _ _ _ _ u.drew;by_cases a6:x∈l.take k
   ·have HE:=qgv (show QJ ps lim l=4 from ZY HBD.out hlt (by rw[HBT.out,if_pos a6]) (by decide));have d7:=qgv (decide_eq_true a6);clear a6;go_wp2_with (go_at_call 107;refine(q4e 0 _ _ (l.take k) x _ e5.out).mono ?_;rintro e w' ⟨rfl,rfl⟩;rw[d7.out]);go_ret;exact⟨by rw[b0.out,HE.out];rfl,(HG1.out.trans e7.out).trans (qc _ _)⟩
   ·have d7:=qgv (decide_eq_false a6);have h8:=qgv (show jB ps l k=0 by rw[HBT.out,if_neg a6]);clear a6;go_wp2_with (go_at_call 107;refine(q4e 0 _ _ (l.take k) x _ e5.out).mono ?_;rintro e w' ⟨rfl,rfl⟩;rw[d7.out]);go_roundw
    case rel=>exact⟨k+1,by simp,by omega,λj hj=>by
     by_cases e:j=k
     ·rw[e];exact h8.out
     ·exact HBD.out j (by omega),e7.out.trans (qc _ _)⟩
    case measure=>simp[qi9];omega
  ·obtain rfl:k=l.length:=by omega
   have HX:=qgv (show ∀x∈l,0<=x/\x<ps.length by have:=Zs HBD.out hk;rwa [qis] at this);have HZ:=qgv (show kP ps lim l=if qK ps l<=lim then 0 else 10 from b0.out.trans (q2s HBD.out));have HPK:=qgv (d6.out.kept hG);have HIK:=qgv (e6.out.kept hG);have HT:=qgv (show ∀p∈ps,0<=p.tall/\p.tall<=1000 from λp hp=>by have:=HOK.out.each p hp;omega);clear hG;go_upto_region 11 with(fail);have g8:=qgv (show ∀w',wr.drew.grownBy w' none->w'.cell? A=some (.slice yb ps.length yc)/\w'.cell? ⟨A,1,none⟩=some (.int .i64 lim) from λw' h=>⟨((qc wr none).trans h).cl b7,((qc wr none).trans h).cl b6⟩);refine qJ 5 (λw'=>w'.cell? A=some (.slice yb ps.length yc)/\w'.cell? ⟨A,1,none⟩=some (.int .i64 lim)) (by kernel_rfl) (by kernel_rfl) ⟨b7,b6⟩ (λa8=>?_);simp only[qh3,qhc,qhk,qii,qhf,qhq,qhr,qhC,qho,qhe];refine tk 0 (h:=tk 1 (h:=tk 3 (h:=tk 4 (h:=?_))));try go_frame
   refine rdc 2 λK hK=>?_;go_simp;go_at_call 108;refine(q7w 0 _ _ _ ps lim l _ (HPK.out.kept (qc _ none)) (HIK.out.kept (qc _ none)) HX.out HT.out hlen).mono ?_;rintro e w6 ⟨rfl,c3⟩;have G6:=qgv ((HG1.out.trans HG.out).trans ((qc wr none).trans c3));refine hK.out _ _ (g8.out _ c3) (λa8=>?_);clear c3;try go_frame
   refine⟨by kernel_rfl,?_⟩;simp only[qhu,qia];generalize qK ps l=T at HZ ⊢;clear a8 b7 b6;by_cases hT:T<=lim
   ·have g6:¬ lim<T:=by omega
    have d5:=qgv (HZ.out.trans (if_pos hT));go_wp2;go_ret;exact⟨by rw[d5.out];rfl,G6.out⟩
   ·have g6:lim<T:=by omega
    have d5:=qgv (HZ.out.trans (if_neg hT));go_wp2;go_ret;exact⟨by rw[d5.out];rfl,G6.out⟩
theorem q2c{ps:List Par}{l:List Int}(h:∀j,j<l.length->jB ps l j=0):l.Nodup:=by
 rw[List.nodup_iff_pairwise_ne,List.pairwise_iff_getElem];intro i j hi hj hij e;have h1:=h j hj;unfold jB at h1;rw[qgG hj] at h1;simp only at h1;split at h1
 ·rw[if_pos (by
   rw[<- e];refine List.mem_iff_getElem?.2 ⟨i,?_⟩;rw[qiz hij,qgG hi])] at h1
  cases h1
 ·cases h1
theorem qaA{ps:List Par}{lim:Int}{l:List Int}(h:kP ps lim l=0):YOk ps lim/\POk ps lim l:=by
 have hc:jz ps lim=0:=qhF λhn=>by unfold kP at h;rw[if_neg hn] at h;exact hn h
 have hy:=q53 hc;have hg:QJ ps lim l=0:=by unfold kP at h;rwa [if_pos hc] at h
 have hb:∀j,j<l.length->jB ps l j=0:=by
  unfold QJ at hg;cases hf:(qht l.length).find? (λk=>decide (jB ps l k≠0)) with
  | some k=>
   rw[hf] at hg;have:=List.find?_some hf;simp at this;exact absurd hg this
  | none=>
   intro j hj;have:=qlk.1 hf j (qjq.2 hj);simpa using this
 have hx:∀x∈l,0<=x/\x<ps.length:=by have:=Zs hb (qgA _);rwa [qis] at this
 have hn:=q2c hb;refine⟨hy,hx,hn,?_,?_⟩
 ·rw[q2s hb] at hg;unfold q2r at hg;exact qhF λhh=>by rw[if_neg hh] at hg;cases hg
 ·have:=Qw ps.length l hn hx;have:=hy.len;omega
def Zh(ps:List Par)(lim:Int)(l:List Int):List (Int × Int):=if kP ps lim l=0 then zD ps l else[]
theorem qE.nil(lo hi:Nat)(w:qgx):qE lo hi w (.slice none 0 0) []:=⟨none,0,rfl,by decide,λh=>absurd rfl h⟩
theorem q8k(pv qv:qgB)(ps:List Par)(lim:Int)(l:List Int)(w:qgx)(hP:qn 0 w.heap.size w pv ps)(hI:qf 0 w.heap.size w qv l)(hlen:l.length<=1000) :qhw Ya 35 #[.agg #[pv,lim],qv] w λe w'=>∃v,e=.returned (.tuple #[v,(kP ps lim l)])/\w.grownBy w' none/\qE 0 w'.heap.size w' v (Zh ps lim l):=by
 by_cases h0:kP ps lim l=0
 ·obtain⟨hy,hp⟩:=qaA h0;refine(q1e 0 _ pv qv ps lim l w hP hI (qgA _) hy hp).mono ?_;rintro e w' ⟨v,rfl,hg,hb⟩;exact⟨v,by rw[h0],hg,by unfold Zh;rw[if_pos h0];exact hb.mono (qhx _) (qgA _)⟩
 ·have HL:=qgv (show Zh ps lim l=[] from if_neg h0);obtain⟨yb,yc,rfl,a8,-⟩:=hP.cell;obtain⟨base,cap,rfl,a9,-⟩:=hI.cell;have a6:=qgw w (.cells #[.slice yb ps.length yc,lim] 24) none;have HO:=qgv (q3C 0 w.heap.size _ _ ps lim l _ (hP.kept a6) (hI.kept a6) a6.size hlen);have HG:=qgv a6;have hc0:(kP ps lim l == 0)=false:=by rw[beq_eq_false_iff_ne];exact h0
  generalize kP ps lim l=c at HO hc0 ⊢;clear a6 hP hI h0;go_enter Tp.x35,Tryz.ntmps35;go_wp2_with (go_at_call 81;refine HO.out.mono ?_;rintro e w2 ⟨ya,yn,yk,yl,rfl,a7,-⟩;have HG2:=qgv (HG.out.trans a7);clear a7);go_ret2;exact⟨_,rfl,HG2.out.trans (qgw _ _ none),by rw[HL.out];exact qE.nil _ _ _⟩
theorem q5G(pv qv:qgB)(ps:List Par)(lim:Int)(l:List Int)(w:qgx)(hP:zA 0 w.heap.size w pv ps)(hI:zw 0 w.heap.size w qv l)(hlen:l.length<=1000)(b9:∀b n c,qv=.slice b n c->n<=c) :qhw Ya 48 #[.agg #[pv,lim],qv] w λe w'=>∃v,e=.returned (.tuple #[v,(kP ps lim l)])/\w.grownBy w' none/\qE 0 w'.heap.size w' v (Zh ps lim l):=by
 obtain⟨i0,e7,e6,e5,e4⟩:=qjj Tp.info26p;obtain⟨yb,yc,rfl,h8,-⟩:=hP.cell;obtain⟨base,cap,rfl,k6,-⟩:=hI.cell;obtain⟨A,w1,hA,d5,a7,c9⟩:=zr w (.cells #[.slice yb ps.length yc,lim] 24);have d7:=qgv λ(W:qgx) (h:w1.grownBy W none)=>((hP.kept (a7.trans h)).mono (qgA _) (a7.trans h).size:zA 0 W.heap.size W (.slice yb ps.length yc) ps);have d9:=qgv λ(W:qgx) (h:w1.grownBy W none)=>((hI.kept (a7.trans h)).mono (qgA _) (a7.trans h).size:zw 0 W.heap.size W (.slice base l.length cap) l);have b8:=qgv (Qo _ _ ps lim l w1 (d7.out _ (qh1 _ _)) (d9.out _ (qh1 _ _)) hlen b9);have ⟨HW,HA,HG1⟩:=z8 d5 hA a7;have q0:=q8 c9 (o:=0) rfl;have q1:=q8 c9 (o:=1) rfl;clear hP hI d5 hA a7 c9 b9;by_cases h0:kP ps lim l=0;rotate_left
 ·have HL:=qgv (show Zh ps lim l=[] from if_neg h0);have hc0:(kP ps lim l == 0)=false:=by rw[beq_eq_false_iff_ne];exact h0
  generalize kP ps lim l=c at b8 hc0 ⊢;clear h0;go_enter Tp.x48,Tryz.ntmps48;go_upto_region 1 with(fail);rw[<- HA.out,<- HW.out];go_wp2_with (go_at_call 50;refine b8.out.mono ?_;rintro e w2 ⟨rfl,b0⟩;have HG2:=qgv (HG1.out.trans b0);clear b0);go_ret2;exact⟨_,rfl,HG2.out,by rw[HL.out];exact qE.nil _ _ _⟩
 obtain⟨hy,hp⟩:=qaA h0;have HL:=qgv (show Zh ps lim l=zD ps l from if_pos h0);have h5:=hy.len;have ⟨HY,HPO⟩:=qH hy hp;rw[h0] at b8 ⊢;clear h0 hy hp;obtain⟨gm,b7⟩:∃gm,gm=pre Par.mn ps ps.length:=⟨_,rfl⟩;obtain⟨gx,b6⟩:∃gx,gx=pre Par.mx ps ps.length:=⟨_,rfl⟩;have g6:=qgv (show ∀x∈l,0<=x/\(yF ps)[x.toNat]?=some (gm x.toNat,gx x.toNat) from λx hx=>by
  have h1:=HPO.out.ok x hx;refine⟨h1.1,?_⟩;have hlt:x.toNat<ps.length:=by omega
  unfold yF;rw[qj7,b7,b6];unfold pre;rw[if_pos hlt,if_pos hlt,qgG hlt];rfl)
 have e8:Hid (∀k,k<l.length->(ji ((zD ps l).take (k+1)))=ji ((zD ps l).take k)++[.int .i64 (loadAt gm l k),.int .i64 (loadAt gx l k)]):=qgv λk hk=>by
  rw[JF ps l k hk,Zr,b7,b6]
 have HBM:=qgv (show ∀i,0<=gm i/\gm i<=1000 by rw[b7];exact HY.out.mn);have HBX:=qgv (show ∀i,0<=gx i/\gx i<=1000 by rw[b6];exact HY.out.mx);clear b7 b6;go_enter Tp.x48,Tryz.ntmps48;go_upto_region 1 with(fail);rw[<- HA.out,<- HW.out];go_upto_region 5 with(go_at_call 50;refine b8.out.mono ?_;rintro e w2 ⟨rfl,b0⟩;have HG2:=qgv b0;clear b0);go_wp2;go_loopw [7,8] (λov iv wr=>∃k:Nat,iv=.int .i64 k/\k<=l.length/\w2.grownBy wr none/\wr.ownsRow w2.heap.size 26 2 ov k (ji ((zD ps l).take k))) (λ_ iv _=>(l.length - qi9 iv).toNat)
 case atStart=>exact⟨0,rfl,by omega,qh1 _ _,by simpa[ji] using qjh _ _ _ _⟩
 case round=>
  obtain⟨k,rfl,hk,hG,hO⟩:=hrel;obtain⟨oa,om,oc,rfl⟩:=zt hO;have ⟨HG,HO⟩:=qH hG hO;by_cases hlt:k<l.length
  ·have a8:=HG2.out.trans hG;have g9:=a8.cl q0;have g8:=a8.cl q1;have e9:=qgv (d7.out _ a8);have g5:=qgv λ(W:qgx) (h:wr.grownBy W none)=>d9.out W (a8.trans h);have HS:=qgv (e8.out k hlt);have g7:(k:Int)<(l.length:Int):=by omega
   have h9:=hG.size;clear a8 hG hO;go_wp2_with (first
    | (go_at_call 89;refine(q1z 0 _ _ ps lim wr ⟨_,rfl,e9.out⟩ (by omega)).mono ?_;rintro e w5 ⟨bv,rfl,c3,c8⟩;have G5:=qgv c3;have k5:=c3.size;have B5:=qgv c8;obtain⟨bb,bc,rfl,-,-⟩:=c8.cell;clear c3 c8)
    | (go_at_call 105;refine(q8l 0 _ _ _ _ _ l (yF ps) gm gx k w5 (g5.out _ G5.out) B5.out g6.out HBM.out HBX.out hlen hlt).mono ?_;rintro e w6 ⟨rfl,d6⟩;have G6:=qgv (G5.out.trans d6);have k0:=G6.out.size;have d8:=qgv (YS HO.out G6.out);clear d6)
    | (at_builtin;(refine qks _ rfl _ _ 48 rfl w2.heap.size 26 i0 _ 2 16 Tp.und48 e7 e6 e5 e4 rfl (by decide) (.slice oa om oc) k _ rfl (d8.out.alloc _) ⟨w6.heap.size,0,none⟩ 1 1 [.int .i64 (loadAt gm l k),.int .i64 (loadAt gx l k)] rfl rfl (qiw (cs:=#[.int .i64 (loadAt gm l k),.int .i64 (loadAt gx l k)]) (t:=26) (fr:=(0,0)) (qgF w6 _)) (by simp[qjk]) (by unfold qkq;omega) (by omega) (by simp;omega) ?_);intro v' w7 a6 a9 _;obtain⟨g',cap',rfl⟩:=ownsRow_succ a6;have HO7:=qgv a6;have HG7:=qgv a9;clear a6 a9))
   go_roundw
   case rel=>
    refine⟨k+1,by simp,by omega,((HG.out.trans G6.out).trans (qgw _ _ none)).andThen HG7.out (λj e=>.inl (d8.out.lt j e).1),?_⟩;rw[HS.out];exact HO7.out
   case measure=>simp[qi9];omega
  ·obtain rfl:k=l.length:=by omega
   clear hG hO;go_wp2;go_ret2;have h0:=HO.out;rw[show(zD ps l).take l.length=zD ps l from qm1 (by simp[zD])] at h0;exact⟨_,rfl,(HG1.out.trans HG2.out).trans HG.out,by rw[HL.out];exact(qE.own h0 (by rw[K4];omega)).mono (qhx _) (qgA _)⟩
end
section
open Go Go.RowKit Go.Co Go.Sim Go.Conc Go.ConcN
structure q2F(Z Y:Nat)(q:qgx):Prop where
 y:∀i,i<3->∃b c lm,∃qs:List Par,q.cell? ⟨Z,i*2,none⟩=some (.slice b qs.length c)/\q.cell? ⟨Z,i*2+1,none⟩=some (.int .i64 lm)/\zA 0 q.heap.size q (.slice b qs.length c) qs/\qs.length<=21
 l:∀k,k<3->∃b c,∃xs:List Int,q.cell? ⟨Y,k,none⟩=some (.slice b xs.length c)/\zw 0 q.heap.size q (.slice b xs.length c) xs/\xs.length<=21/\xs.length<=c
theorem q2F.kept{Z Y:Nat}{u w:qgx}(h:q2F Z Y u)(hg:u.grownBy w none):q2F Z Y w:=by
 refine⟨λi hi=>?_,λk hk=>?_⟩
 ·obtain⟨b,c,lm,qs,h1,h2,h3,h4⟩:=h.y i hi;exact⟨b,c,lm,qs,hg.cl h1,hg.cl h2,(h3.kept hg).mono (qgA _) hg.size,h4⟩
 ·obtain⟨b,c,xs,h1,h2,h3⟩:=h.l k hk;exact⟨b,c,xs,hg.cl h1,(h2.kept hg).mono (qgA _) hg.size,h3⟩
theorem q2F.of{Z Y:Nat}{q:qgx}{b0 b1 b2 d0 d1 d2:Option qi5}{c0 c1 c2 e0 e1 e2:Nat}{m0 m1 m2:Int}{p0 p1 p2:List Par}{l0 l1 l2:List Int}(hz:q.heap[Z]?=some (.cells #[.slice b0 p0.length c0,m0,.slice b1 p1.length c1,m1,.slice b2 p2.length c2,m2] 24 (0,0)))(hy:q.heap[Y]?=some (.cells #[.slice d0 l0.length e0,.slice d1 l1.length e1,.slice d2 l2.length e2] 29 (0,0)))(h0:zA 0 q.heap.size q (.slice b0 p0.length c0) p0)(h1:zA 0 q.heap.size q (.slice b1 p1.length c1) p1)(h2:zA 0 q.heap.size q (.slice b2 p2.length c2) p2)(hp:p0.length<=21/\p1.length<=21/\p2.length<=21)(k0:zw 0 q.heap.size q (.slice d0 l0.length e0) l0)(k1:zw 0 q.heap.size q (.slice d1 l1.length e1) l1)(k2:zw 0 q.heap.size q (.slice d2 l2.length e2) l2)(hl:l0.length<=21/\l1.length<=21/\l2.length<=21)(he:l0.length<=e0/\l1.length<=e1/\l2.length<=e2):q2F Z Y q:=by
 refine⟨λi hi=>?_,λk hk=>?_⟩
 ·match i,hi with
  | 0,_=>exact⟨_,_,_,p0,q8 hz (o:=0) rfl,q8 hz (o:=1) rfl,h0,hp.1⟩
  | 1,_=>exact⟨_,_,_,p1,q8 hz (o:=2) rfl,q8 hz (o:=3) rfl,h1,hp.2.1⟩
  | 2,_=>exact⟨_,_,_,p2,q8 hz (o:=4) rfl,q8 hz (o:=5) rfl,h2,hp.2.2⟩
 ·match k,hk with
  | 0,_=>exact⟨_,_,l0,q8 hy (o:=0) rfl,k0,hl.1,he.1⟩
  | 1,_=>exact⟨_,_,l1,q8 hy (o:=1) rfl,k1,hl.2.1,he.2.1⟩
  | 2,_=>exact⟨_,_,l2,q8 hy (o:=2) rfl,k2,hl.2.2,he.2.2⟩
section
variable[J:JunkSet]{Post:qgB->qgx->Prop}{W:qgx}
theorem el8(D:Two Ya qh5)(hok:JunkSet.okf 137)(m9:∀i,¬ JunkSet.jk i)(hin:Ya.inits.idxOf? 8=none)(d8:Tryz.prog.inits.idxOf? 8=none){yb lb base:Option qi5}{ny yc nl lc len cap:Nat}{lim n:Int}{p:Par}{wq:qgx}(hl:(len:Int)<=9223372036854775807)(hr:0<len->∃lb lo,base=some ⟨lb,lo,none⟩/\∀i,i<len->∃x,wq.cell? ⟨lb,lo+i,none⟩=some (.int .i64 x))(h0:qT wq 0)(hY:ny<=20->∃ps:List Par,ps.length=ny/\zA 0 wq.heap.size wq (.slice yb ny yc) ps)(hL:nl<=20->∃l:List Int,l.length=nl/\zw 0 wq.heap.size wq (.slice lb nl lc) l/\nl<=lc)(c8:∀w,(∀j,j<W.heap.size->w.heap[j]?=W.heap[j]?)->w.os=W.os->w.output=W.output->W.heap.size<=w.heap.size->Post (.bool true) w) :EL Ya qh5 8 Post W (G (qhD Ya 8 #[.agg #[.slice yb ny yc,lim],.agg #[p.mn,p.mx,p.bears,p.tall],.slice lb nl lc,.int .i64 n,.slice base len cap] .normal) [qj 8]) wq:=by
 have hs:Ya.funcs[(qhl 8).fn]?=Tryz.prog.funcs[(qhl 8).fn]?:=z6 8 (by decide);have hb:Bot 8 [qj 8]:=⟨[],rfl⟩;rw[q8r (fn:=qo8) (c0:=Tryz.f8.body.getD .skip) Tp.x8 (by kernel_rfl)];simp only[qo8,qgH];walk_nrm;have ⟨HR,HYY,HLL⟩:=z8 hr hY hL;clear hr hY hL;refine EL.sp D hb hs λT=>?_;go_wp2;obtain⟨A,hA⟩:∃A,A=(wq.tp T).heap.size:=⟨_,rfl⟩;rw[<- hA];have b0:=(qgw (wq.tp T) (.cells #[.slice yb ny yc,lim] 24) none).trans (qgw _ (.cells #[p.mn,p.mx,p.bears,p.tall] 28) none);refine yD (λq=>(wq.tp q.tape).grownBy q none/\q.heap[A]?=some (.cells #[.slice yb ny yc,lim] 24 (0,0))/\q.heap[A+1]?=some (.cells #[p.mn,p.mx,p.bears,p.tall] 28 (0,0))) ⟨tpg (T:=T) b0,qp (by rw[hA];exact qgF _ _),by
  have:=qgF ((wq.tp T).alloc (.cells #[.slice yb ny yc,lim] 24)) (.cells #[p.mn,p.mx,p.bears,p.tall] 28);rw[qh6,<- hA] at this;exact this⟩ λu1 hF=>?_
 obtain⟨g1,a1,p1⟩:=hF;clear b0 hA;by_cases e4:20<ny\/20<nl
 ·have p9:(20:Int)<(ny:Int)\/((¬ (20:Int)<(ny:Int))/\(20:Int)<(nl:Int)):=by omega
  clear e4;refine EL.seq D hb hs ?_;refine EL.seq D hb hs ?_;rcases p9 with hd1 | ⟨hd1,hd2⟩;all_goals
   refine EL.piece D hb hs λT=>?_;have c0:=q8 (w:=u1.tp T) a1 (o:=0) rfl;go_wp2;refine EL.tape (wq:=u1) ?_ T;clear c0;refine EL.cond D hb hs true (by rfl) ?_;simp only[if_true];refine EL.seq D hb hs ?_;refine EL.region D hb hs ?_;simp only[qhn,qh3,qhc,qhk,qhf,qht,qi4];refine EL.enter D hb hs (fk:=23) (args:=#[]) rfl rfl (λT=>by rw[qm9 (f:=23) rfl Tp.x23 (by kernel_rfl) rfl];walk_nrm) (z6 23 (by decide)) ?_;refine qg9 D hok m9 hin ⟨_,Tp.x8,qoj⟩ ?_ _ [qj 8] hb hs λv u hR=>?_
   ·obtain⟨cs,e,g,h0,g5⟩:=h0;exact⟨cs,e,g,blk (w:=wq.tp u1.tape) g1 (by simp) h0,g5⟩
   obtain⟨rfl,b9⟩:=hR;rw[qjg];walk_nrm;refine EL.list D hb hs [1] [_] (rest:=[]) rfl λT4=>?_;go_wp2;refine EL.tape (wq:=u) ?_ T4;refine EL.region_end D hb hs ?_;refine EL.retS D hb hs ?_;exact EL.last d8 rfl rfl qoj rfl rfl c8
 have l6:ny<=20:=by omega
 have l7:nl<=20:=by omega
 clear e4;obtain⟨ps,rfl,hP⟩:=HYY.out l6;obtain⟨l,rfl,hI,m7⟩:=HLL.out l7;clear HYY HLL;refine EL.seq D hb hs ?_;refine EL.sp D hb hs λT=>?_;have c0:=q8 (w:=u1.tp T) a1 (o:=0) rfl;have hd1:¬ (20:Int)<(ps.length:Int):=by omega
 have hd2:¬ (20:Int)<(l.length:Int):=by omega
 go_wp2;refine EL.tape (wq:=u1) ?_ T;clear c0;refine EL.cond D hb hs false (by rfl) ?_;refine EL.skip D hb hs ?_;refine EL.sp D hb hs λT=>?_;have HR1:=qgv (show 0<len->∃lb lo,base=some ⟨lb,lo,none⟩/\∀i,i<len->∃x,(u1.tp T).cell? ⟨lb,lo+i,none⟩=some (.int .i64 x) from λhp=>by
  obtain⟨lb,lo,e,h⟩:=HR.out hp;refine⟨lb,lo,e,λi hi=>?_⟩;obtain⟨x,hx⟩:=h i hi;exact⟨x,World.grownBy.cell (w:=wq.tp u1.tape) g1 hx (by simp)⟩)
 go_wp2_with (go_at_call 24;refine(q5E base len cap (u1.tp T) hl HR1.out).mono ?_;rintro e w2 ⟨rfl,p3,l4⟩;have G2:=qgv p3;have T2:=qgv l4;clear p3 l4);obtain⟨b,h8⟩:∃b,b=(u1.tp T).heap.size:=⟨_,rfl⟩;rw[<- h8] at T2 ⊢;have g8:wq.heap.size<=b:=by rw[h8];exact g1.size
 refine yD (λu=>(wq.tp u.tape).grownBy u none/\qO u b 0/\u.heap[A]?=some (.cells #[.slice yb ps.length yc,lim] 24 (0,0))/\u.heap[A+1]?=some (.cells #[p.mn,p.mx,p.bears,p.tall] 28 (0,0))) ⟨gb g1 (tpg G2.out),T2.out,blk (w:=u1.tp T) G2.out (by simp) a1,blk (w:=u1.tp T) G2.out (by simp) p1⟩ λu2 hF=>?_;obtain⟨g2,t2,a2,p2⟩:=hF;clear G2 T2 h8 HR HR1 g1 a1 p1;have ⟨HP,HI⟩:=qH hP hI;clear hP hI;refine EL.sp D hb hs λT=>?_;have c0:=q8 (w:=u2.tp T) a2 (o:=0) rfl;have c1:=q8 (w:=u2.tp T) a2 (o:=1) rfl;have c2:=q8 (w:=u2.tp T) p2 (o:=0) rfl;have c3:=q8 (w:=u2.tp T) p2 (o:=1) rfl;have c4:=q8 (w:=u2.tp T) p2 (o:=2) rfl;have c5:=q8 (w:=u2.tp T) p2 (o:=3) rfl;go_wp2_with (go_at_call 25;refine(q3r 0 _ _ ps lim p b 0 (u2.tp T) (show zA 0 wq.heap.size (u2.tp T) (.slice yb ps.length yc) ps from zA.kept (w:=wq.tp u2.tape) (w':=u2) HP.out g2 (by simp)) t2 (by omega)).mono ?_;rintro e w3 ⟨ms,ml,mv,wv,Z,k7,rfl,l9,-,k6,e7,e5⟩;have N3:=qgv l9;have M3:=qgv e7;have W3:=qgv e5;have Z3:=qgv k6;have YD:=qgv k7;obtain⟨mb,mc,rfl,-,-⟩:=e7.cell;obtain⟨wb,wc,rfl,-,-⟩:=e5.cell;clear l9 e7 e5 k6 k7);have d5:b<u2.heap.size:=t2.lt;refine yD (λq=>(wq.tp q.tape).grownBy q none/\qO q b 31/\q.heap[Z]?=some (.cells #[.slice yb ps.length yc,lim,.slice mb ms.length mc,ml,.slice wb (ms++[p]).length wc,ml] 24 (0,0))/\qn u2.heap.size q.heap.size q (.slice mb ms.length mc) ms/\qn u2.heap.size q.heap.size q (.slice wb (ms++[p]).length wc) (ms++[p])) ⟨qbh g2 (tpg N3.out.1) g8,N3.out.2,Z3.out,M3.out,W3.out⟩ λu3 hF=>?_;obtain⟨g3,t3,z3,m3,w3⟩:=hF;have p7:ms.length<=4:=YD.out.len;have q1:b≠Z:=λe=>by
  have h:=z3;obtain⟨_,_,_,_,_,_,q0,_⟩:=t3;rw[<- e,q0] at h;injection h with h;injection h with _ h _;exact absurd h (by decide)
 clear N3 M3 W3 Z3 g2 t2 a2 p2 c0 c1 c2 c3 c4 c5;refine EL.sp D hb hs λT=>?_;have c2:=q8 (w:=u3.tp T) z3 (o:=2) rfl;have c3:=q8 (w:=u3.tp T) z3 (o:=3) rfl;go_wp2_with (go_at_call 26;go_must (refine(q88 u2.heap.size _ _ l ms ml n b 31 (u3.tp T) ⟨_,_,rfl⟩ m3 d5 t3 (by omega) (by omega) (by have:=YD.out.l1;omega) (by have:=YD.out.l2;omega) (λq hq=>by have:=(YD.out.yok (Nat.le_succ_of_le (qgA 4))).each q hq;omega)).mono ?_);rintro e w4 ⟨m,r5,gc,ab,ac,Y,l5,rfl,l8,-,k8,n9,n3,p4,k0⟩;have N4:=qgv l8;have G4:=qgv n9;have A4:=qgv p4;have Y4:=qgv k8;have PK:=qgv l5;clear l8 n9 p4 k8 l5);have m6:m.length+1=(m++[n]).length:=by simp
 have e8:m.length<=20:=by have:=Qw ms.length m PK.out.nd PK.out.ok;omega
 rw[m6] at A4 Y4 k0;have m5:(m++[n]).length<=21:=by omega
 have m4:(ms++[p]).length<=21:=by simp;omega
 have g4:(wq.tp w4.tape).grownBy w4 none:=qbh g3 (tpg N4.out.1) g8;have f4:q2F Z Y w4:=q2F.of (blk (w:=u3.tp T) N4.out.1 (by simp;omega) z3) Y4.out ((zA.kept (w:=wq.tp w4.tape) HP.out g4 (by simp)).mono (qgA _) g4.size)
  (((qn.kept (w:=u3.tp T) m3 N4.out.1 (λR e=>by cases e;exact .inl d5)).mono (qhx _) N4.out.1.size).g) (((qn.kept (w:=u3.tp T) w3 N4.out.1 (λR e=>by cases e;exact .inl d5)).mono (qhx _) N4.out.1.size).g) ⟨by omega,by omega,m4⟩
  ((zw.kept (w:=wq.tp w4.tape) HI.out g4 (by simp)).mono (qgA _) g4.size) ((G4.out.mono (qhx _) (qgA _)).g) ((A4.out.mono (qhx _) (qgA _)).g) ⟨by omega,by omega,m5⟩ ⟨m7,n3,k0⟩
 refine yD (λq=>(wq.tp q.tape).grownBy q none/\q2F Z Y q) ⟨g4,f4⟩ λu4 hF=>?_;clear g4 f4;obtain⟨g4,f4⟩:=hF;clear N4 G4 A4 Y4 PK YD HP HI z3 m3 w3 t3 g3 m5 m4 m6 k0 n3 m7 e8 p7 l6 l7 c2 c3 q1 d5 g8;refine EL.sp D hb hs λT=>?_;have F4:=qgv (show q2F Z Y (u4.tp T) from⟨f4.y,f4.l⟩);have G4:=qgv g4;clear f4 g4 hl;go_wp2;go_loopw [14] (λiv wr=>∃i:Nat,iv=.int .i64 i/\i<=3/\(u4.tp T).grownBy wr none) (λiv _=>(3 - qi9 iv).toNat)
 case atStart=>exact⟨0,rfl,by omega,qh1 _ _⟩
 case round=>
  obtain⟨i,rfl,hi,hG⟩:=hrel;have HG:=qgv hG;have b8:=F4.out.kept hG;have HF:=qgv b8;by_cases hlt:i<3
  ·obtain⟨a9,a8,lm,qs,c0,c1,hq,q5⟩:=b8.y i hlt;have r3:(i:Int)<3:=by omega
   have HQ:=qgv hq;clear hG b8 hq;go_upto_region 10 with(go_at_call 27;refine(q2h 0 _ _ qs lm wr ⟨_,rfl,HQ.out⟩ (qgA _) (by omega)).mono ?_;rintro e w5 ⟨ov,rfl,n8,e6⟩;have G5:=qgv n8;have O5:=qgv e6;obtain⟨ob,oc,rfl,-,-⟩:=e6.cell;clear n8 e6);obtain⟨O,hO⟩:∃O,O=w5.heap.size:=⟨_,rfl⟩;rw[<- hO];have b0:=G5.out.trans (qgw w5 (.cells #[.slice ob qs.length oc,lm] 24) none);refine yU (λu=>(u4.tp T).grownBy u none/\u.heap[O]?=some (.cells #[.slice ob qs.length oc,lm] 24 (0,0))/\qn 0 u.heap.size u (.slice ob qs.length oc) qs/\u.cell? ⟨Z,i*2,none⟩=some (.slice a9 qs.length a8)/\u.cell? ⟨Z,i*2+1,none⟩=some (.int .i64 lm)/\zA 0 u.heap.size u (.slice a9 qs.length a8) qs)
    ⟨HG.out.trans b0,by rw[hO];exact qgF _ _,(O5.out.alloc _).mono (qhx _) (by rw[qh6];omega),b0.cl c0,b0.cl c1,(HQ.out.kept b0).mono (qgA _) b0.size⟩ (λu hF=>?_)
   obtain⟨gu,ou,pu,c0,c1,qu⟩:=hF;have ⟨GU,OU,PU,QU⟩:=zY gu ou pu qu;have FU:=qgv (F4.out.kept gu);clear G5 O5 b0 hO HQ HG HF gu ou pu qu;go_wp2;go_loopw [16] (λkv wr=>∃k:Nat,kv=.int .i64 k/\k<=3/\u.grownBy wr none) (λkv _=>(3 - qi9 kv).toNat)
   case atStart=>exact⟨0,rfl,by omega,qh1 _ _⟩
   case round=>
    obtain⟨k,rfl,hk,hG⟩:=hrel;have HG:=qgv hG;have b8:=FU.out.kept hG;have d0:=q8 (bk hG OU.out) (o:=0) rfl;have d1:=q8 (bk hG OU.out) (o:=1) rfl;have e0:=hG.cl c0;have e1:=hG.cl c1;have PW:=qgv ((PU.out.kept hG).mono (qgA _) hG.size);have QW:=qgv ((QU.out.kept hG).mono (qgA _) hG.size);by_cases p8:k<3
    ·obtain⟨xb,xc,xs,x0,hx,q4,k9⟩:=b8.l k p8;have q7:(k:Int)<3:=by omega
     have HX:=qgv hx;clear hG b8 hx c0 c1;go_upto_region 14 with(go_at_call 28;refine(q8u 0 _ _ xs wr HX.out (qgA _) (by omega)).mono ?_;rintro e w6 ⟨kv,rfl,n7,m8⟩;have e9:=qf.own m8 (by omega);obtain⟨kb,kc,rfl,-,-⟩:=e9.cell;have G6:=qgv n7;have K6:=qgv e9;clear n7 m8 e9);refine yU (λv=>wr.grownBy v none/\qf 0 v.heap.size v (.slice kb xs.length kc) xs) ⟨G6.out,K6.out.mono (qhx _) (qgA _)⟩ (λv hF=>?_);obtain⟨gv,kv⟩:=hF;have d2:=gv.cl d0;have d3:=gv.cl d1;have e2:=gv.cl e0;have e3:=gv.cl e1;have x1:=gv.cl x0;have n2:=HG.out.trans gv;have ⟨GV,KV⟩:=qH n2 kv;have PV:=qgv ((PW.out.kept gv).mono (qgA _) gv.size);have QV:=qgv ((QW.out.kept gv).mono (qgA _) gv.size);have XV:=qgv ((HX.out.kept gv).mono (qgA _) gv.size);clear G6 K6 gv kv n2 d0 d1 e0 e1 x0 HG PW QW HX;go_upto_region 15 with(go_at_call 35;refine(q8k _ _ qs lm xs v PV.out KV.out (by omega)).mono ?_;rintro e w7 ⟨lv,rfl,n6,h9⟩;obtain⟨q3,q2,rfl,-,-⟩:=h9.cell;have G7:=qgv n6;have B7:=qgv h9;clear n6 h9);obtain⟨er,g7⟩:∃er,er=kP qs lm xs:=⟨_,rfl⟩;rw[<- g7];have k5:=qgv g7;clear g7;obtain⟨bl,g9⟩:∃bl,bl=Zh qs lm xs:=⟨_,rfl⟩;rw[<- g9] at B7 ⊢;have HBL:=qgv g9;clear g9;have d7:=qgv (show ∀w',w7.grownBy w' none->w'.cell? O=some (.slice ob qs.length oc)/\w'.cell? ⟨O,1,none⟩=some (.int .i64 lm)/\w'.cell? ⟨Z,i*2,none⟩=some (.slice a9 qs.length a8)/\w'.cell? ⟨Z,i*2+1,none⟩=some (.int .i64 lm)/\w'.cell? ⟨Y,k,none⟩=some (.slice xb xs.length xc) from λw' h=>
      have hh:=G7.out.trans h
      ⟨hh.cl d2,hh.cl d3,hh.cl e2,hh.cl e3,hh.cl x1⟩)
     have GW:=qgv (λ(w':qgx) (h:w7.grownBy w' none)=>(GV.out.trans (G7.out.trans h):u.grownBy w' none));have PX:=qgv (λ(w':qgx) (h:w7.grownBy w' none)=>((PV.out.kept (G7.out.trans h)).mono (qgA _) (G7.out.trans h).size:qn 0 w'.heap.size w' (.slice ob qs.length oc) qs));have QX:=qgv (λ(w':qgx) (h:w7.grownBy w' none)=>((QV.out.kept (G7.out.trans h)).mono (qgA _) (G7.out.trans h).size:zA 0 w'.heap.size w' (.slice a9 qs.length a8) qs));have XX:=qgv (λ(w':qgx) (h:w7.grownBy w' none)=>((XV.out.kept (G7.out.trans h)).mono (qgA _) (G7.out.trans h).size:zw 0 w'.heap.size w' (.slice xb xs.length xc) xs));have KX:=qgv (λ(w':qgx) (h:w7.grownBy w' none)=>((KV.out.kept (G7.out.trans h)).mono (qgA _) (G7.out.trans h).size:qf 0 w'.heap.size w' (.slice kb xs.length kc) xs));have BX:=qgv (λ(w':qgx) (h:w7.grownBy w' none)=>((B7.out.kept h).mono (qgA _) h.size:qE 0 w'.heap.size w' (.slice q3 bl.length q2) bl));clear G7 GV PV QV XV KV B7 d2 d3 e2 e3 x1;refine qJ 13 (λw'=>w7.grownBy w' none/\w'.cell? O=some (.slice ob qs.length oc)/\w'.cell? ⟨O,1,none⟩=some (.int .i64 lm)/\w'.cell? ⟨Z,i*2,none⟩=some (.slice a9 qs.length a8)/\w'.cell? ⟨Z,i*2+1,none⟩=some (.int .i64 lm)/\w'.cell? ⟨Y,k,none⟩=some (.slice xb xs.length xc)) (by kernel_rfl) (by kernel_rfl) ⟨qc w7 none,d7.out _ (qc w7 none)⟩ (λa6=>?_);simp only[qh3,qhc,qhk,qii,qhf,qhq,qhr,qhC,qho,qhe];refine tk 0 (h:=tk 1 (h:=tk 2 (h:=tk 3 (h:=tk 4 (h:=tk 5 (h:=tk 6 (h:=tk 7 (h:=?_))))))));try go_frame
     refine rdc 8 λK hK=>?_;go_simp;go_at_call 48;refine(q5G _ _ qs lm xs _ (QX.out _ a6.1) (XX.out _ a6.1) (by omega) (λb n c e=>by cases e;exact k9)).mono ?_;rintro e w8 ⟨lv,rfl,n4,d6⟩;rw[<- HBL.out] at d6;rw[<- k5.out];obtain⟨r6,r4,rfl,-,-⟩:=d6.cell;have G8:=qgv ((qc w7 none).trans n4);have B8:=qgv d6;refine hK.out _ _ ⟨G8.out,d7.out _ G8.out⟩ (λa6=>?_);clear n4 d6;try go_frame
     refine tk 9 (h:=tk 10 (h:=tk 11 (h:=tk 12 (h:=?_))));try go_frame
     refine⟨by kernel_rfl,?_⟩;simp only[qhu,qia];clear a6;go_upto_region 16 with(fail);have c9:=qgv (λ(w':qgx) (h:w8.grownBy w' none)=>d7.out w' (G8.out.trans h));have HST:=qgv (show ∀w' a7,w8.grownBy w' none->w'.grownBy a7 none->w8.grownBy a7 none/\a7.cell? O=some (.slice ob qs.length oc)/\a7.cell? ⟨O,1,none⟩=some (.int .i64 lm)/\a7.cell? ⟨Z,i*2,none⟩=some (.slice a9 qs.length a8)/\a7.cell? ⟨Z,i*2+1,none⟩=some (.int .i64 lm)/\a7.cell? ⟨Y,k,none⟩=some (.slice xb xs.length xc) from λw' a7 h h'=>⟨h.trans h',c9.out _ (h.trans h')⟩);refine qJ 32 (λw'=>w8.grownBy w' none/\w'.cell? O=some (.slice ob qs.length oc)/\w'.cell? ⟨O,1,none⟩=some (.int .i64 lm)/\w'.cell? ⟨Z,i*2,none⟩=some (.slice a9 qs.length a8)/\w'.cell? ⟨Z,i*2+1,none⟩=some (.int .i64 lm)/\w'.cell? ⟨Y,k,none⟩=some (.slice xb xs.length xc)) (by kernel_rfl) (by kernel_rfl) ⟨qc w8 none,c9.out _ (qc w8 none)⟩ (λa6=>?_);simp only[qh3,qhc,qhk,qii,qhf,qhq,qhr,qhC,qho,qhe];refine tk 0 (h:=tk 1 (h:=tk 3 (h:=tk 4 (h:=tk 5 (h:=tk 6 (h:=tk 7 (h:=tk 8 (h:=tk 9 (h:=tk 10 (h:=?_))))))))));try go_frame
     refine rdc 2 λK hK=>?_;go_simp;go_at_call 49;refine(q07 _ _ qs lm xs _ (PX.out _ (G8.out.trans a6.1)) (KX.out _ (G8.out.trans a6.1)) (by omega)).mono ?_;rintro e w9 ⟨rfl,b9⟩;rw[<- k5.out];refine hK.out _ _ (HST.out _ _ a6.1 b9) (λa6=>?_);clear b9;try go_frame
     refine rdc 11 λK hK=>?_;go_simp;go_at_call 50;refine(Qo _ _ qs lm xs _ (QX.out _ (G8.out.trans a6.1)) (XX.out _ (G8.out.trans a6.1)) (by omega) (λb n c e=>by cases e;exact k9)).mono ?_;rintro e p6 ⟨rfl,b7⟩;rw[<- k5.out];refine hK.out _ _ (HST.out _ _ a6.1 b7) (λa6=>?_);clear b7;try go_frame
     refine tk 12 (h:=tk 13 (h:=tk 14 (h:=tk 15 (h:=tk 16 (h:=tk 17 (h:=tk 18 (h:=tk 19 (h:=tk 20 (h:=?_)))))))));try go_frame
     refine rdc 21 λK hK=>?_;go_simp;go_at_call 51;refine(QR 0 _ 0 _ _ _ bl bl _ (BX.out _ (G8.out.trans a6.1)) ((B8.out.kept a6.1).mono (qgA _) a6.1.size)).mono ?_;rintro e p5 ⟨rfl,b6⟩;rw[decide_eq_true rfl];refine hK.out _ _ (HST.out _ _ a6.1 b6) (λa6=>?_);clear b6;try go_frame
     refine tk 22 (h:=tk 23 (h:=tk 24 (h:=tk 25 (h:=tk 26 (h:=tk 27 (h:=tk 28 (h:=tk 29 (h:=?_))))))));try go_frame
     refine rdc 30 λK hK=>?_;go_simp;go_at_call 31;refine(q8o 0 _ 0 _ _ _ xs xs _ (KX.out _ (G8.out.trans a6.1)).g (XX.out _ (G8.out.trans a6.1))).mono ?_;rintro e q6 ⟨rfl,d9⟩;rw[decide_eq_true rfl];refine hK.out _ _ (HST.out _ _ a6.1 d9) (λa6=>?_);clear d9;try go_frame
     refine tk 31 (h:=?_);try go_frame
     refine⟨by kernel_rfl,?_⟩;simp only[qhu,qia];have GZ:=qgv (GW.out _ (G8.out.trans a6.1));clear a6 HST d7 c9 PX QX XX KX BX G8 B8 GW;go_wp2;go_roundw
     case rel=>exact⟨k+1,by simp,by omega,GZ.out⟩
     case measure=>simp[qi9];omega
    ·obtain rfl:k=3:=by omega
     clear hG b8;go_upto_region 18 with(fail);have HST:=qgv (show ∀w' a7,wr.grownBy w' none/\w'.cell? O=some (.slice ob qs.length oc)/\w'.cell? ⟨O,1,none⟩=some (.int .i64 lm)/\w'.cell? ⟨Z,i*2,none⟩=some (.slice a9 qs.length a8)/\w'.cell? ⟨Z,i*2+1,none⟩=some (.int .i64 lm)->w'.grownBy a7 none->wr.grownBy a7 none/\a7.cell? O=some (.slice ob qs.length oc)/\a7.cell? ⟨O,1,none⟩=some (.int .i64 lm)/\a7.cell? ⟨Z,i*2,none⟩=some (.slice a9 qs.length a8)/\a7.cell? ⟨Z,i*2+1,none⟩=some (.int .i64 lm) from λw' a7 h h'=>⟨h.1.trans h',h'.cl h.2.1,h'.cl h.2.2.1,h'.cl h.2.2.2.1,h'.cl h.2.2.2.2⟩);refine qJ 16 (λw'=>wr.grownBy w' none/\w'.cell? O=some (.slice ob qs.length oc)/\w'.cell? ⟨O,1,none⟩=some (.int .i64 lm)/\w'.cell? ⟨Z,i*2,none⟩=some (.slice a9 qs.length a8)/\w'.cell? ⟨Z,i*2+1,none⟩=some (.int .i64 lm)) (by kernel_rfl) (by kernel_rfl) (HST.out wr wr.drew ⟨qh1 _ _,d0,d1,e0,e1⟩ (qc wr none)) (λa6=>?_);simp only[qh3,qhc,qhk,qii,qhf,qhq,qhr,qhC,qho,qhe];refine tk 0 (h:=tk 2 (h:=tk 3 (h:=tk 4 (h:=tk 5 (h:=?_)))));try go_frame
     refine rdc 1 λK hK=>?_;go_simp;go_at_call 52;refine(QF 0 _ _ qs lm _ ⟨_,rfl,(PW.out.kept a6.1).mono (qgA _) a6.1.size⟩ (qgA _)).mono ?_;rintro e w9 ⟨rfl,b9⟩;refine hK.out _ _ (HST.out _ _ a6 b9) (λa6=>?_);clear b9;try go_frame
     refine rdc 6 λK hK=>?_;go_simp;go_at_call 53;refine(Zq 0 _ _ qs lm _ ⟨_,rfl,(QW.out.kept a6.1).mono (qgA _) a6.1.size⟩ (qgA _)).mono ?_;rintro e p6 ⟨rfl,b7⟩;refine hK.out _ _ (HST.out _ _ a6 b7) (λa6=>?_);clear b7;try go_frame
     refine tk 7 (h:=tk 8 (h:=tk 9 (h:=tk 10 (h:=tk 11 (h:=tk 12 (h:=tk 13 (h:=?_)))))));try go_frame
     refine rdc 14 λK hK=>?_;go_simp;go_at_call 32;refine(q01 0 _ 0 _ _ _ qs qs lm lm _ ⟨_,rfl,((PW.out.kept a6.1).mono (qgA _) a6.1.size).g⟩ ⟨_,rfl,(QW.out.kept a6.1).mono (qgA _) a6.1.size⟩).mono ?_;rintro e p5 ⟨rfl,b6⟩;rw[decide_eq_true ⟨rfl,rfl⟩];refine hK.out _ _ (HST.out _ _ a6 b6) (λa6=>?_);clear b6;try go_frame
     refine tk 15 (h:=?_);try go_frame
     refine⟨by kernel_rfl,?_⟩;simp only[qhu,qia];have GZ:=qgv (GU.out.trans (HG.out.trans a6.1));clear a6 HST PW QW;go_wp2;go_roundw
     case rel=>exact⟨i+1,by simp,by omega,GZ.out⟩
     case measure=>simp[qi9];omega
  ·obtain rfl:i=3:=by omega
   clear hG b8;go_wp2;refine yD (λq=>(wq.tp q.tape).grownBy q none) (gb G4.out (tpg HG.out)) λu6 g6=>?_;refine EL.seq D hb hs ?_;refine EL.region D hb hs ?_;simp only[qhn,qh3,qhc,qhk,qhf,qht,qi4];refine EL.enter D hb hs (fk:=23) (args:=#[]) rfl rfl (λT=>by rw[qm9 (f:=23) rfl Tp.x23 (by kernel_rfl) rfl];walk_nrm) (z6 23 (by decide)) ?_;refine qg9 D hok m9 hin ⟨_,Tp.x8,qoj⟩ ?_ _ [qj 8] hb hs λv u hR=>?_
   ·obtain⟨cs,e,g,h0,g5⟩:=h0;exact⟨cs,e,g,blk (w:=wq.tp u6.tape) g6 (by simp) h0,g5⟩
   obtain⟨rfl,b9⟩:=hR;rw[qjg];walk_nrm;refine EL.list D hb hs [1] [_] (rest:=[]) rfl λT4=>?_;go_wp2;refine EL.tape (wq:=u) ?_ T4;refine EL.region_end D hb hs ?_;refine EL.retS D hb hs ?_;exact EL.last d8 rfl rfl qoj rfl rfl c8
end
end
section
open Go Go.RowKit Go.Co Go.Sim Go.Conc Go.ConcN Go.ChangeShapes Go.WideShapes
theorem Tryz.own:ownKnob Tryz.prog.godebug=none:=by kernel_rfl
theorem Tryz.laidOut:laidOutB qh5=true:=by kernel_rfl
theorem q7c:Tryz.prog.globals.size=0:=by kernel_rfl
theorem qa4:(begin qh5 (λ_ _=>0) default).world.heap[0]?=some (.cells ((qkB Tryz.prog.types.size).map λt=>.int .u64 (Int.ofNat t)) 0 (0,0)):=by kernel_rfl
def qdH(w:qgx):Prop:=∃cs e f,w.heap[0]?=some (.cells cs e f)/\∀(i:Nat) v,cs[i]?=some v->∃k m,v=.int k m
theorem qfD{w:qgx}(h:w.ShapedOpen qh5):qdH w:=by
 obtain⟨o,o0,h1,h2,h3⟩:=h.2 0 (by rw[q7c];exact qgA _) (qgy.1 qa4).1;rw[qa4] at h2;cases h2;rw[q7c,if_neg (by decide)] at h3;subst h3;refine⟨_,_,_,h1,λi v hv=>?_⟩;rw[qmG] at hv;cases hi:(qkB Tryz.prog.types.size)[i]? with
 | none=>rw[hi] at hv;cases hv
 | some x=>rw[hi] at hv;cases hv;exact⟨_,_,rfl⟩
theorem qft:@Two (JS Ya qh5 ls λ_=>False) Ya qh5 :=
 @Two.mk (JS Ya qh5 ls λ_=>False) _ _ (qe9 _) ⟨⟨JS Ya Ya ls λ_=>False⟩,up _,qe8 _⟩ hrf qa1
end
end Go.Proofs.YtidgnkmjgioapaaGreat
